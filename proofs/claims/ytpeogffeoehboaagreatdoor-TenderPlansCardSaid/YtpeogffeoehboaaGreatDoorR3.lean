/-
  An abstract machine, and that its runs are the model's. Lemmas alone; no condition.
-/
import Derived.Test.YtpeogffeoehboaaGreatDoorR2
import Derived.LoopNIn
import Derived.RangeFuncNested
namespace Go.RM
open Go
theorem Ca {n m:Nat} (h:n≤m):∀ {c:Code},codeOk n c=true→codeOk m c=true:=by
 intro c
 induction c with
 | region id ops draw =>
  intro hc;simp only [codeOk,qq7,List.all_eq_true] at hc ⊢;refine ⟨hc.1,fun o ho=>⟨(hc.2 o ho).1,?_⟩⟩;have:=(hc.2 o ho).2
  cases hd:o.dst with
  | none=>rfl
  | some d =>rw [hd] at this;simp only at this ⊢;have h1:=Nat.le_of_ble_eq_true this;exact Nat.ble_eq_true_of_le (Nat.le_trans h1 h)
 | seq a b iha ihb=>intro hc;simp only [codeOk,qq7] at hc ⊢;exact ⟨iha hc.1,ihb hc.2⟩
 | cond x a b iha ihb=>intro hc;simp only [codeOk,qq7] at hc ⊢;exact ⟨⟨hc.1.1,iha hc.1.2⟩,ihb hc.2⟩
 | block id c ih=>intro hc;simp only [codeOk] at hc ⊢;exact ih hc
 | loop c ih=>intro hc;simp only [codeOk] at hc ⊢;exact ih hc
 | scope c ih=>intro hc;simp only [codeOk] at hc ⊢;exact ih hc
 | rangeFunc f ps a b iha ihb =>intro hc;simp only [codeOk,qq7,List.all_eq_true] at hc ⊢;exact ⟨⟨⟨hc.1.1.1,fun p hp=>Nat.ble_eq_true_of_le (Nat.le_trans (Nat.le_of_ble_eq_true (hc.1.1.2 p hp)) h)⟩,iha hc.1.2⟩,ihb hc.2⟩
 | _=>intro _;rfl
structure Pre (γ:Gm) (st:St) (a:Act) (w:World) (rr:Option Nat) (N0:Nat):Prop where
 fr:xP γ st.fr a.tmps
 hr:HR γ st.hp.get w
 rd:st.rd=rr.isSome
 df:Ar γ w N0 a.defers
 wf:Wf st.hp
 lp:∀ b,rr=some b→∃ l,γ.loc l=some (b,0)∧oI (st.hp.get l)=true
def th (γ:Gm) (H:Hp) (w:World) (L:List gC) (e:Ending) (w':World):Prop :=
 ∃ v hp v' γ',gC.ret v hp ∈ L∧e=.returned v'∧VR γ' v v'∧Step γ H w γ' hp w'
def jz (γ:Gm) (H:Hp) (w:World) (sz:Nat) (rd:Option Nat) (N0:Nat) (L:List (Exit × St)) (e:Exit) (a':Act) (w':World):Prop :=
 ∃ p ∈ L,∃ γ',e=p.1∧Pre γ' p.2 a' w' rd N0∧a'.tmps.size=sz∧Step γ H w γ' p.2.hp w'
theorem jz.trans {γ γ1:Gm} {H H1:Hp} {w w1 w2:World} {sz:Nat} {rd:Option Nat} {N0:Nat} {L M:List (Exit × St)} {e:Exit} {a:Act}
  (s:Step γ H w γ1 H1 w1) (h:jz γ1 H1 w1 sz rd N0 M e a w2) (hs:∀ p ∈ M,p ∈ L):jz γ H w sz rd N0 L e a w2:=by
 obtain ⟨p,hp,γ',h1,h2,h3,h4⟩:=h;exact ⟨p,hs p hp,γ',h1,h2,h3,s.trans h4⟩
structure cI (T : bJ) (rec : qI → Option (List gC)) (m : Nat) : Prop where
  call : ∀ f args hp L, rec (.call f args hp) = some L → (∃ fn c, T.P.funcs[f]? = some fn ∧ (fn.name == "runtime.NumGoroutine") = false ∧ fn.body = some c) ∧
    ∀ γ w args' N, Wf hp → HR γ hp.get w → fB γ hp.n N → (∀ r ∈ L, r.hp.n ≤ N) → cv γ args args' → CallsIn (FW none) 0 T.P f args'.toArray w (th γ hp w L)
  round : ∀ l args hp L, rec (.round l args hp) = some L → ∀ γ w args' N b, Wf hp → γ.loc l = some (b, 0) → HR γ hp.get w → fB γ hp.n N → (∀ r ∈ L, r.hp.n ≤ N) → cv γ args args' →
    ∃ r : Loop, w.heap[b]? = some (.loop r) ∧ args'.length = r.params.size ∧
      RoundIn (FW none) 0 T.P b r.fn ((r.params.zip args'.toArray).foldl (fun tmps (t, a) => tmps.setIfInBounds t a) r.tmps) r.assign r.body w (th γ hp w L)
  loop : ∀ c st Lr, rec (.loop c st) = some Lr → ∀ L, (∀ r ∈ Lr, ∃ p ∈ L, r = .out p.1 p.2) → ∀ γ w a rd N0 N, Pre γ st a w rd N0 → codeOk a.tmps.size c = true → fB γ st.hp.n N → (∀ r ∈ Lr, r.hp.n ≤ N) →
    N0 ≤ w.heap.size → Code.roundsIn (FW rd) 0 T.P c (jz γ st.hp w a.tmps.size rd N0 L) m a w
def j6 (T:bJ) (rec:qI→Option (List gC)):Prop :=
 ∀ id ops st L,bH T rec ops st=some L→∀ γ w a rd N0 N,Pre γ st a w rd N0→codeOk a.tmps.size (.region id ops true)=true→fB γ st.hp.n N→(∀ s ∈ L,s.hp.n≤N) →
  (Code.region id ops true).wpIn (FW rd) 0 T.P (jz γ st.hp w a.tmps.size rd N0 (L.map fun s=>(.normal,s))) a w
section
variable {T : bJ} {rec : qI → Option (List gC)} {m : Nat}
theorem VR.oN {γ:Gm} {f:FuncId} {fs cs:Array Value} {v:Value} (h:VR γ (.func (.func f) fs cs) v):∃ fs' cs',v=.func (.func f) fs' cs'∧cv γ fs.toList fs'.toList∧cv γ cs.toList cs'.toList:=by
 cases h with
 | flat h=>cases h
 | func h1 h2 hf hc=>exact ⟨_,_,rfl,.mQ h1 hf,.mQ h2 hc⟩
theorem VR.tj {γ:Gm} {l:Nat} {fs cs:Array Value} {v:Value} (h:VR γ (.func (.yield l) fs cs) v):fs=#[]∧∃ b,v=.func (.yield b) #[] #[]∧γ.loc l=some (b,0):=by
 cases h with
 | flat h=>cases h
 | yield h=>exact ⟨rfl,_,rfl,h⟩
theorem mj {v:Value} {args:List Value} {f:FuncId} {as:List Value} (h:cO v args=some (.fn f as)):∃ fs cs,v=.func (.func f) fs cs∧as=fs.toList++args++cs.toList:=by
 unfold cO at h;split at h
 ·simp only [qq9,Goal.fn.injEq] at h;obtain ⟨rfl,rfl⟩:=h;exact ⟨_,_,rfl,rfl⟩
 ·simp at h
 ·cases h
theorem mX {v:Value} {args:List Value} {l:Nat} {as:List Value} (h:cO v args=some (.yield l as)):∃ fs cs,v=.func (.yield l) fs cs∧as=fs.toList++args:=by
 unfold cO at h;split at h
 ·simp at h
 ·simp only [qq9,Goal.yield.injEq] at h;obtain ⟨rfl,rfl⟩:=h;exact ⟨_,_,rfl,rfl⟩
 ·cases h
theorem rS {P : Program} {f : FuncId} {fn : Func} {c : Code} (h : P.funcs[f]? = some fn) (hn : (fn.name == "runtime.NumGoroutine") = false) (hb : fn.body = some c) (args : Array Value) (w : World) :
    (callFunc f args).run P w = .ok (.enter f args) w := by
  unfold callFunc
  have hn' : ¬ fn.name = "runtime.NumGoroutine" := by simpa using hn
  simp [program, Sem.run, h, hn', hb]
theorem vR (hS:cI T rec m) {γ:Gm} {H:Hp} {w:World} {v v':Value} {args args':List Value} {g:Goal} {L:List gC} {N:Nat} (hg:cO v args=some g) (hv:VR γ v v') (ha:cv γ args args')
  (hr:rec (gJ H g)=some L) (hw:Wf H) (hh:HR γ H.get w) (hf:fB γ H.n N) (hN:∀ r ∈ L,r.hp.n≤N) {d:Deferred} (hd:(Deferred.ofValue v' args'.toArray).run T.P w=.ok d w) :
  (∃ f as,(invoke d.target d.args).run T.P w=.ok (.enter f as) w∧CallsIn (FW none) 0 T.P f as w (th γ H w L)) ∨
  (∃ l f tm asg bd,(invoke d.target d.args).run T.P w=.ok (.round l f tm asg bd) w∧RoundIn (FW none) 0 T.P l f tm asg bd w (th γ H w L)):=by
 cases g with
 | fn f as =>
  obtain ⟨fs,cs,rfl,rfl⟩:=mj hg;obtain ⟨fs',cs',rfl,e1,e2⟩:=hv.oN;obtain ⟨⟨fn,c,h1,h2,h3⟩,hcall⟩:=hS.call _ _ _ _ hr;have hd':d={target:=.fn (.func f) cs',args:=fs'++args'.toArray}:=by simp only [Deferred.ofValue] at hd;cases hd;rfl
  subst hd';refine .inl ⟨f,fs'++args'.toArray++cs',rS h1 h2 h3 _ w,?_⟩;have:=hcall γ w (fs'.toList++args'++cs'.toList) N hw hh hf hN ((e1.append ha).append e2);have he:(fs'.toList++args'++cs'.toList).toArray=fs'++args'.toArray++cs':=by apply Array.ext';simp
  rw [he] at this;exact this
 | yield l as =>
  obtain ⟨fs,cs,rfl,rfl⟩:=mX hg;obtain ⟨rfl,b,rfl,hl⟩:=hv.tj;have hd':d={target:=.fn (.yield b) #[],args:=#[]++args'.toArray}:=by simp only [Deferred.ofValue] at hd;cases hd;rfl
  subst hd';obtain ⟨r,h1,h2,h3⟩:=hS.round _ _ _ _ hr γ w args' N b hw hl hh hf hN (by simpa using ha);refine .inr ⟨b,r.fn,_,r.assign,r.body,?_,h3⟩;show (Instr.yield b (#[]++args'.toArray)).run T.P w=_;rw [Array.empty_append];exact run_yield h1 (by simpa using h2)
theorem Cb {o:Op} {f:Rm} {as:List Operand} (h:cP o=.call f as):(∃ x args tys,o=.call ⟨.value x,args,tys⟩∧f=.op x∧as=args.toList)∨∃ r name args tys,o=.call ⟨.invoke r name,args,tys⟩∧f=.GS r name∧as=args.toList:=by
 unfold cP at h;split at h
 ·simp only [Kind.call.injEq] at h;obtain ⟨rfl,rfl⟩:=h;exact .inl ⟨_,_,_,rfl,rfl,rfl⟩
 ·simp only [Kind.call.injEq] at h;obtain ⟨rfl,rfl⟩:=h;exact .inr ⟨_,_,_,_,rfl,rfl,rfl⟩
 ·cases h
 ·cases h
theorem Ef {P:Program} {v:Value} {name:String} {vs:List Value} {g:Goal} (h:cO (vu P v name) vs=some g):∃ t x f r,v=.iface t x∧aG P (method (P.types.size+Made.depth) t x name)=some (f,r)∧flat r=true∧vu P v name=.func (.func f) #[r] #[]:=by
 unfold vu at h ⊢;split at h
 ·rename_i t x;split at h
  ·rename_i f r hp
   cases hr:flat r with
   | true=>exact ⟨t,x,f,r,rfl,hp,hr,by simp only [cond_true]⟩
   | false=>rw [hr] at h;cases h
  ·cases h
 ·cases h
theorem TZ {α:Type} (x:α) (b:Array α):(#[x]++b)[0]?=some x:=by rw [←Array.getElem?_toList,Array.toList_append];rfl
theorem T0 {α:Type} (x:α) (b:Array α):(#[x]++b).extract 1 (#[x]++b).size=b:=by apply Array.ext';rw [Array.toList_extract,Array.toList_append,Array.size_append];show (x :: b.toList).extract 1 _=_;simp [List.extract];rw [show b.size=b.toList.length from Array.length_toList.symm];rw [List.take_of_length_le (by omega)]
theorem Aw {T:bJ} {γ:Gm} {o:Oper} {f:Rm} {as:List Operand} (hk:cP o.op=.call f as) {fr:Tr Value} {a:Act} (hev:∀ x ∈ o.op.operands,VR γ (aF fr x) (a.eval x)) {vs:List Value} {g:Goal} (hg:cO (iP T.P fr f) vs=some g) (w:World) :
  (∀ c,o.op ≠ .defer c)∧cv γ (as.map (aF fr)) (as.map a.eval)∧∃ vf',VR γ (iP T.P fr f) vf'∧∀ d,(Deferred.ofValue vf' (as.map a.eval).toArray).run T.P w=.ok d w→(execOp a.eval o).run T.P w=(invoke d.target d.args).run T.P w:=by
 rcases Cb hk with ⟨x,args,tys,hop,rfl,rfl⟩|⟨r,name,args,tys,hop,rfl,rfl⟩
 ·refine ⟨(by rw [hop];intro c hc;cases hc),cv.map fun x hx=>hev x (by rw [hop];simp [Op.operands,Call.operands];exact .inr (by simpa using hx)),a.eval x,hev x (by rw [hop];simp [Op.operands,Call.operands]),fun d hd=>?_⟩;obtain ⟨dst,op,ty,pos,after,guard⟩:=o;simp only at hop;subst hop;show (do let d ←resolve a.eval ⟨.value x,args,tys⟩ ty;invoke d.target d.args:Sem Next).run T.P w=_;refine eR ?_;have e2:(args.toList.map a.eval).toArray=args.map a.eval:=by apply Array.ext';simp
  rw [e2] at hd;exact hd
 ·obtain ⟨t,x,f0,rv,hv,hp,hfl,hm⟩:=Ef hg
  have hr:a.eval r=.iface t x:=by
   have:=hev r (by rw [hop];simp [Op.operands,Call.operands]);rw [hv] at this;generalize a.eval r=y at this
   cases this with
   | flat=>rfl
  have hvr:VR γ (iP T.P fr (.GS r name)) (.func (.func f0) #[rv] #[]):=by
   show VR γ (vu T.P (aF fr r) name) _;rw [hm]
   exact .func rfl rfl (fun i h1 h2=>by
    have:i=0:=by simpa using h1
    subst this
    exact VR.of_flat hfl) (fun i h1=>absurd h1 (by simp))
  refine ⟨(by rw [hop];intro c hc;cases hc),cv.map fun x hx=>hev x (by rw [hop];simp [Op.operands,Call.operands];exact .inr (by simpa using hx)),_,hvr,fun d hd=>?_⟩;obtain ⟨dst,op,ty,pos,after,guard⟩:=o;simp only at hop;subst hop;have e2:(args.toList.map a.eval).toArray=args.map a.eval:=by apply Array.ext';simp
  rw [e2] at hd;have hd':d={target:=.fn (.func f0) #[],args:=#[rv]++args.map a.eval}:=by have:(Deferred.ofValue (.func (.func f0) #[rv] #[]) (args.map a.eval)).run T.P w=.ok {target:=.fn (.func f0) #[],args:=#[rv]++args.map a.eval} w:=rfl;rw [this] at hd;cases hd;rfl
  subst hd';have hmr:=fY T.P hp w;have h1:(resolve a.eval ⟨.invoke r name,args,tys⟩ ty).run T.P w=.ok {target:=.fn (.method name) #[],args:=#[a.eval r]++args.map a.eval} w:=rfl;refine (eR h1:(do let d ←resolve a.eval ⟨.invoke r name,args,tys⟩ ty;invoke d.target d.args:Sem Next).run T.P w=_).trans ?_;have h0:(#[a.eval r]++args.map a.eval)[0]?=some (a.eval r):=TZ _ _;show (invoke (.fn (.method name) #[]) (#[a.eval r]++args.map a.eval)).run T.P w=(callFunc f0 ((#[rv]++args.map a.eval)++#[])).run T.P w;have h2:invoke (.fn (.method name) #[]) (#[a.eval r]++args.map a.eval)=callMethod (a.eval r) name ((#[a.eval r]++args.map a.eval).extract 1 (#[a.eval r]++args.map a.eval).size):=by unfold invoke;simp only [h0]
  rw [h2];rw [hr];have e3:(#[Value.iface t x]++args.map a.eval).extract 1 (#[Value.iface t x]++args.map a.eval).size=args.map a.eval:=T0 _ _;rw [e3];show (do let p ←method ((←program).types.size+Made.depth) t x name;callFunc p.1 (#[p.2]++args.map a.eval):Sem Next).run T.P w=_;rw [Array.append_empty];have hq:(do method ((←program).types.size+Made.depth) t x name:Sem (FuncId × Value)).run T.P w=.ok (f0,rv) w:=hmr;exact eR hq
theorem Cc {o:Op} {it:Operand} (h:cP o=.next it):o=.next it false:=by
 unfold cP at h;split at h
 ·cases h
 ·cases h
 ·simp only [Kind.next.injEq] at h;rw [h]
 ·cases h
theorem yQ {n:Nat} {o:Op} {ρ:Operand→Value} {g:aH} {v:Value} {e:bS} (h:gX T n o ρ g=some (v,e)):∀ c,o ≠ .defer c:=by intro c hc;subst hc;cases h
theorem Oper.Ay {rd:Option Nat} {P:Program} {o:Oper} {a:Act} {w w':World} {next:Act→World→Prop} {Q:Exit→Act→World→Prop} {v':Value} (hp:∀ c,o.op ≠ .defer c)
  (hr:(execOp a.eval o).run P w=.ok (.value v') w'∨((execOp a.eval o).run P w=.ok .skip w'∧v'=undef)) (h:next (a.put o.dst v') w'):o.wpIn (FW rd) 0 P a w next Q:=by
 refine ⟨fun _ _=>trivial,?_⟩;have he:o.semAt rd a.eval=execOp a.eval o:=Oper.semAt_plain (FW rd) _ _ hp;show o.uponIn _ _ _ _ _ _ ((o.semAt rd a.eval).run P w);rw [he]
 rcases hr with hr|⟨hr,rfl⟩
 ·rw [hr];exact h
 ·rw [hr];exact h
theorem uz (hT:cx T) (hS:cI T rec m) {o:Oper} {st:St} {L:List (Value × Hp)} (ho:dw T rec o.op st=some L) {γ:Gm} {w:World} {a:Act} {rd:Option Nat} {N:Nat}
  (hfr:xP γ st.fr a.tmps) (hw:Wf st.hp) (hh:HR γ st.hp.get w) (hops:o.op.operands.toList.all ur=true) (hf:fB γ st.hp.n N) (hN:∀ p ∈ L,p.2.n≤N) {next:Act→World→Prop} {Q:Exit→Act→World→Prop}
  (hnext:∀ v hp v' γ' w',(v,hp) ∈ L→VR γ' v v'→Step γ st.hp w γ' hp w'→next (a.put o.dst v') w'):o.wpIn (FW rd) 0 T.P a w next Q:=by
 have hev:∀ x ∈ o.op.operands,VR γ (aF st.fr x) (a.eval x):=fun x hx=>IB hfr (List.all_eq_true.1 hops x (by simpa using hx));unfold dw at ho;split at ho
 ·rename_i f as hk;split at ho
  ·rename_i g hg;obtain ⟨hnd,ha,vf',hv,hx⟩:=Aw hk hev hg w
   cases hr:rec (gJ st.hp g) with
   | none=>rw [hr] at ho;cases ho
   | some R =>
    rw [hr] at ho;simp only at ho
    have hmem:∀ r ∈ R,∃ v hp,r=.ret v hp∧(v,hp) ∈ L:=by
     intro r hrm;obtain ⟨Ma,h1,h2⟩:=cH ho r hrm
     cases r with
     | ret v hp=>simp only [valOf,qq9] at h1;subst h1;exact ⟨v,hp,rfl,h2 _ (by simp)⟩
     | out e s=>cases h1
    have hN':∀ r ∈ R,r.hp.n≤N:=fun r hrm=>by obtain ⟨v,hp,rfl,hm⟩:=hmem r hrm;exact hN _ hm
    have hd:∃ d,(Deferred.ofValue vf' (as.map a.eval).toArray).run T.P w=.ok d w:=by
     cases g with
     | fn f' as' =>obtain ⟨fs,cs,e,_⟩:=mj hg;rw [e] at hv;obtain ⟨fs',cs',e',_,_⟩:=hv.oN;rw [e'];exact ⟨_,rfl⟩
     | yield l as' =>obtain ⟨fs,cs,e,_⟩:=mX hg;rw [e] at hv;obtain ⟨_,b,e',_⟩:=hv.tj;rw [e'];exact ⟨_,rfl⟩
    obtain ⟨d,hd⟩:=hd
    have hback:∀ e w',th γ st.hp w R e w'→(match e with
      | .returned v=>next (a.put o.dst v) w'
      | .panicked chain=>Q (.panic chain) a w'
      | .outgrown=>LetsOut Q):=by
     intro e w' ⟨v,hp,v',γ',hm,he,hv',hs⟩;subst he;obtain ⟨v0,hp0,e0,hm0⟩:=hmem _ hm;cases e0;exact hnext v hp v' γ' w' hm0 hv' hs
    refine ⟨fun _ _=>trivial,?_⟩;have he:o.semAt rd a.eval=execOp a.eval o:=Oper.semAt_plain (FW rd) _ _ hnd;show o.uponIn _ _ _ _ _ _ ((o.semAt rd a.eval).run T.P w);rw [he];have hx:=hx d hd;rw [hx]
    rcases vR hS hg hv ha hr hw hh hf hN' hd with ⟨f',as',h1,h2⟩|⟨l,f',tm,asg,bd,h1,h2⟩
    ·rw [h1];refine ⟨fun h=>Bool.noConfusion h,?_⟩;exact CallsIn.mono (F:=FW none) h2 fun e w' he=>by have:=hback e w' he;cases e <;> exact this
    ·rw [h1];refine ⟨fun h=>Bool.noConfusion h,?_⟩;exact RoundIn.mono (F:=FW none) h2 fun e w' he=>by have:=hback e w' he;cases e <;> exact this
  ·cases ho
 ·rename_i it hk;have hop:=Cc hk;simp only [Option.map_eq_some_iff] at ho;obtain ⟨M,hM,rfl⟩:=ho;obtain ⟨v,e,hm,hg⟩:=D6 (T:=T) (n:=st.hp.n) (ty:=o.type) hh hM (hev it (by rw [hop];simp [Op.operands]));obtain ⟨v',w',γ',h1,h2,h3⟩:=hg.step;refine Oper.Ay (w':=w') (v':=v') (by rw [hop];intro c hc;cases hc) ?_ (hnext v _ v' γ' w' (List.mem_map.2 ⟨(v,e),hm,rfl⟩) h2 h3);obtain ⟨dst,op,ty,pos,after,guard⟩:=o;simp only at hop;subst hop;exact h1
 ·split at ho
  ·rename_i v e hop;simp only [qq9] at ho;subst ho
   have hn:e.news=true→γ.loc st.hp.n=none:=fun he=>hf _ (qq6 _) (by
    have:=hN (v,st.hp.app e) (by simp);simp only [qt,he,if_true] at this
    omega)
   obtain ⟨v',w',γ',h1,h2,h3⟩:=(B1 (n:=st.hp.n) hT hh hn hop hev).step;exact Oper.Ay (w':=w') (v':=v') (yQ hop) h1 (hnext v _ v' γ' w' (by simp) h2 h3)
  ·cases ho
theorem Good.le {β:Type} {H:Hp} {f:β→Hp} {M:List β} (h:Good H f M) {N:Nat} (hN:∀ b ∈ M,(f b).n≤N):H.n≤N:=by
 obtain ⟨h1,h2⟩:=h
 cases M with
 | nil=>exact absurd rfl h1
 | cons b l=>exact Nat.le_trans (h2 b (by simp)).n (hN b (by simp))
theorem Pre.put {γ γ':Gm} {st:St} {a:Act} {w w':World} {rd:Option Nat} {N0:Nat} (h:Pre γ st a w rd N0) {hp:Hp} {v v':Value} {dst:Option Tmp} (hv:VR γ' v v') (hs:Step γ st.hp w γ' hp w')
  (hd:∀ d,dst=some d→d < a.tmps.size) (hk:ej st.hp hp):Pre γ' ⟨cD st.fr dst v,hp,st.rd⟩ (a.put dst v') w' rd N0 :=
 ⟨(h.fr.mono hs.le).put hv hd,hs.hr,h.rd,by rw [put_defers];exact h.df.step hs,hk.wf h.wf,fun b hb=>let ⟨l,h1,h2⟩:=h.lp b hb;⟨l,hs.le.loc _ _ h1,hk.loop h.wf l h2⟩⟩
def fZ (n:Nat) (o:Oper):Bool:=o.op.operands.toList.all ur && (match o.dst with|some d=>Nat.blt d n|none=>true)
theorem mY {n:Nat} {o:Oper} (h:fZ n o=true):∀ d,o.dst=some d→d < n:=by intro d hd;simp only [fZ,qq7,hd] at h;exact Nat.le_of_ble_eq_true h.2
theorem x9 (hT:cx T) (hK:bF rec) (hS:cI T rec m) (ops:Array Oper) {γ0:Gm} {H0:Hp} {w0:World} {sz:Nat} {rd:Option Nat} {N0 N:Nat} {Lb:List (Exit × St)} :
  ∀ (l:List Oper) (st:St) (L:List St),aO T rec ops.toList l st=some L→∀ γ a w,Pre γ st a w rd N0→a.tmps.size=sz→Step γ0 H0 w0 γ st.hp w→l.all (fZ sz)=true→fB γ st.hp.n N →
   (∀ s ∈ L,s.hp.n≤N)→(∀ s ∈ L,(Exit.normal,s) ∈ Lb)→wpListIn (FW rd) 0 T.P ops (jz γ0 H0 w0 sz rd N0 Lb) l a w:=by
 intro l
 induction l with
 | nil =>intro st L h γ a w hp hsz hs _ _ _ hb;rw [dF] at h;cases h;exact ⟨_,hb st (by simp),γ,rfl,hp,hsz,hs⟩
 | cons o l ih =>
  intro st L h γ a w hp hsz hs hok hf hN hb;rw [bK] at h;simp only [List.all_cons,qq7] at hok;have hdst:∀ d,o.dst=some d→d < a.tmps.size:=by rw [hsz];exact mY hok.1
  rw [wpListIn,IC hp.fr]
  cases hg:aY ops.toList st.fr o.guard with
  | false =>rw [hg] at h;simp only [cond_false] at h;refine ⟨fun _ _=>trivial,?_⟩;have hr:=Step.refl hp.hr;exact ih _ L h γ _ w (hp.put (VR.undef γ) hr hdst (.refl _)) ((jy _ _ _).trans hsz) hs hok.2 hf hN hb
  | true =>
   rw [hg] at h;simp only [cond_true] at h;simp only [if_true]
   cases ha:dw T rec o.op st with
   | none=>rw [ha] at h;cases h
   | some A =>
    rw [ha] at h;simp only at h;have hsub:∀ p ∈ A,∃ M,aO T rec ops.toList l ⟨cD st.fr o.dst p.1,p.2,st.rd⟩=some M∧∀ s ∈ M,s ∈ L:=fun p hpm=>cH h p hpm;have hle:∀ p ∈ A,p.2.n≤N:=fun p hpm=>by obtain ⟨M,h1,h2⟩:=hsub p hpm;exact Good.le (fH hK _ _ _ _ h1).1 (fun s hsm=>hN s (h2 s hsm))
    have hops:o.op.operands.toList.all ur=true:=by have:=hok.1;simp only [fZ,qq7] at this;exact this.1
    refine uz hT hS ha hp.fr hp.wf hp.hr hops hf hle fun v hp' v' γ' w' hm hv hst=>?_;obtain ⟨M,h1,h2⟩:=hsub _ hm;exact ih _ M h1 γ' _ w' (hp.put hv hst hdst ((qN hK ha).2 _ hm)) ((jy _ _ _).trans hsz) (hs.trans hst) hok.2 (hst.fresh hf) (fun s hsm=>hN s (h2 s hsm)) fun s hsm=>hb s (h2 s hsm)
theorem HR.rT {γ:Gm} {g:aH} {w:World} (h:HR γ g w) {l b o:Nat} {s:LoopState} {pend:Option Code} {fr:Tr Value} {ps:Array Tmp} {as bd:Code} (hg:g l=some (.loop s pend fr ps as bd)) (hl:γ.loc l=some (b,o)) :
  o=0∧∃ r:Loop,w.heap[b]?=some (.loop r)∧r.state=s∧r.pending=pend∧r.params=ps∧r.assign=as∧r.body=bd ∧
   xP γ fr r.tmps∧codeOk r.tmps.size as=true∧codeOk r.tmps.size bd=true∧(∀ p ∈ ps,p < r.tmps.size):=by
 obtain ⟨h0,_,fn,tm,df',h1,h2,h3,h4,h5⟩:=h.gE l b o _ hg hl;exact ⟨h0,_,h1,rfl,rfl,rfl,rfl,rfl,h2,h3,h4,h5⟩
theorem Step.Az {γ:Gm} {H:Hp} {w:World} (h:HR γ H.get w) {l b:Nat} {s s':LoopState} {pend pend':Option Code} {fr:Tr Value} {ps:Array Tmp} {as bd:Code} (hg:H.get l=some (.loop s pend fr ps as bd)) (hl:γ.loc l=some (b,0))
  {r:Loop} (hr:w.heap[b]?=some (.loop r)):Step γ H w γ (H.put l (.loop s' pend' fr ps as bd)) (w.putObj b (.loop {r with state:=s',pending:=pend'})):=by
 obtain ⟨_,_,fn,tm,df',h1,h2,h3⟩:=h.gE l b 0 _ hg hl;rw [hr] at h1;cases h1;have hlt:=h.lt _ _ _ hl;have hoth:∀ i,i ≠ b→(w.putObj b (.loop {state:=s',pending:=pend',fn,tmps:=tm,params:=ps,assign:=as,body:=bd,defers:=df'})).heap[i]?=w.heap[i]?:=fun i hi=>World.putObj_heap_other hi;have hB:γ.B≤b:=(h.gE l b 0 _ hg hl).2.1;refine ⟨qq6 _,Gm.Le.refl γ,fun _ _=>rfl,?_,?_⟩
 ·rw [Hp.lf];exact h.put hg rfl hl World.putObj_size hoth (.inl rfl) ⟨rfl,hB,fn,tm,df',World.putObj_heap_same hlt,h2,h3⟩
 ·rw [Hp.lf];exact jZ.put hg rfl hl rfl rfl rfl World.putObj_size hoth
theorem Cd {v:Value} {args:List Value} {f:FuncId} {as:List Value} (h:cO v args=some (.fn f as)) {γ:Gm} {v':Value} (hv:VR γ v v') (args':Array Value) (P:Program) (w:World) :
  ∃ d,(Deferred.ofValue v' args').run P w=.ok d w:=by
 obtain ⟨fs,cs,e,_⟩:=mj h;rw [e] at hv;obtain ⟨fs',cs',e',_,_⟩:=hv.oN;rw [e'];exact ⟨_,rfl⟩
theorem G4 {ps:Array Tmp} {as bd:Code} {_f:Operand} {st:St} {γ:Gm} {w:World} {a:Act} {rd:Option Nat} {N0:Nat} (hp:Pre γ st a w rd N0) (h0:N0≤w.heap.size) (_hnone:γ.loc st.hp.n=none):∃ (w1:World) (D:Nat) (ds:List Deferred),
  HR γ st.hp.get w1∧w.heap.size≤w1.heap.size∧jZ γ st.hp.get w γ st.hp.get w1 ∧
  (∀ fn,(Instr.enterLoop fn a.tmps ps as bd rd).run T.P w=.ok (w1.heap.size,ds) (w1.alloc (.loop {state:=.ready,pending:=none,fn,tmps:=a.tmps,params:=ps,assign:=as,body:=bd,defers:=D}))) ∧
  ∀ (o:Obj) (H1:Hp),Step γ st.hp w (γ.add st.hp.n w1.heap.size 0) H1 (w1.alloc o)→Ar (γ.add st.hp.n w1.heap.size 0) (w1.alloc o) N0 (ds++a.defers):=by
 cases rd with
 | some b =>
  obtain ⟨l,hl,hlp⟩:=hp.lp b rfl
  obtain ⟨r,hr⟩:∃ r,w.heap[b]?=some (.loop r):=by
   cases hg:st.hp.get l with
   | none=>rw [hg] at hlp;cases hlp
   | some x =>
    cases x with
    | loop s pend fr ps as bd =>obtain ⟨_,r,h,_⟩:=hp.hr.rT hg hl;exact ⟨r,h⟩
    | _=>rw [hg] at hlp;cases hlp
  exact ⟨w,r.defers,[],hp.hr,qq6 _,.refl _ _ _,fun fn=>run_enterLoop_inner hr fn a.tmps ps as bd,fun o H1 hs=>hp.df.step hs⟩
 | none =>
  let w1:=w.alloc (.deferred (some []))
  have hh1:HR γ st.hp.get w1:=hp.hr.off (by show _≤(w.heap.push _).size;simp) (fun k b o hl=>by
   show (w.heap.push _)[b]?=_
   rw [Array.getElem?_push,if_neg (by have:=hp.hr.lt _ _ _ hl;omega)]) (fun b hb=>by
   show (w.heap.push _)[b]?=_
   rw [Array.getElem?_push,if_neg (by have:=hp.hr.base;omega)])
  have hsz1:w1.heap.size=w.heap.size+1:=by show (w.heap.push _).size=_;simp
  have hu1:jZ γ st.hp.get w γ st.hp.get w1:=(jZ.refl _ _ _).off rfl rfl rfl (by omega) fun b hb=>by show (w.heap.push _)[b]?=_;rw [Array.getElem?_push,if_neg (by omega)]
  refine ⟨w1,w.heap.size,[{target:=.collected w.heap.size,args:=#[]}],hh1,by omega,hu1,fun fn=>by rw [hsz1];exact run_enterLoop_outer fn a.tmps ps as bd,fun o H1 hs1=>?_⟩;have hl1:(γ.add st.hp.n w1.heap.size 0).loc st.hp.n=some (w.heap.size+1,0):=by rw [←hsz1];exact Gm.cw _ _ _ _
  obtain ⟨rs,e1,e2,e3⟩:=hp.df.step hs1;refine ⟨w.heap.size :: rs,by rw [e1];rfl,List.nodup_cons.2 ⟨fun hmem=>?_,e2⟩,fun r hrm=>?_⟩
  ·obtain ⟨rs0,q1,q2,q3⟩:=hp.df
   have hrr:rs0=rs:=by
    have hinj:∀ (l l':List Nat),l.map (fun r=>({target:=.collected r,args:=#[]}:Deferred))=l'.map (fun r=>({target:=.collected r,args:=#[]}:Deferred))→l=l':=by
     intro l
     induction l with
     | nil=>intro l' he;cases l' with
      | nil=>rfl
      | cons=>cases he
     | cons x l ih=>intro l' he;cases l' with
      | nil=>cases he
      | cons y l' =>simp only [List.map_cons,List.cons.injEq,Deferred.mk.injEq,Target.collected.injEq,and_true] at he;rw [he.1,ih l' he.2]
    exact hinj _ _ (q1.symm.trans e1)
   subst hrr;have:=(Array.getElem?_eq_some_iff.1 (q3 _ hmem).2.1).1;omega
  ·rcases List.mem_cons.1 hrm with rfl|hrm
   ·refine ⟨h0,?_,fun k o hl=>?_⟩
    ·show (w1.heap.push _)[w.heap.size]?=_;rw [Array.getElem?_push,if_neg (by omega)];show (w.heap.push _)[w.heap.size]?=_;simp
    ·by_cases hk:k=st.hp.n
     ·subst hk;rw [hl1] at hl;simp at hl
     ·have:=hp.hr.lt k _ o (by rw [←hl];exact (Gm.bN _ _ _ hk).symm);omega
   ·exact e3 r hrm
theorem Ce (hK:bF rec) (hS:cI T rec m) {f:Operand} {ps:Array Tmp} {as bd:Code} {st:St} {L:List (Exit × St)} (h:mP rec f ps as bd st=some L)
  {γ:Gm} {w:World} {a:Act} {rd:Option Nat} {N0 N:Nat} (hp:Pre γ st a w rd N0) (hc:codeOk a.tmps.size (.rangeFunc f ps as bd)=true) (hf:fB γ st.hp.n N) (hN:∀ p ∈ L,p.2.hp.n≤N) (h0:N0≤w.heap.size) :
  (Code.rangeFunc f ps as bd).wpIn (FW rd) 0 T.P (jz γ st.hp w a.tmps.size rd N0 L) a w:=by
 simp only [codeOk,qq7,List.all_eq_true] at hc;obtain ⟨⟨⟨hc1,hc2⟩,hc3⟩,hc4⟩:=hc;unfold mP at h;split at h
 ·rename_i g args hg
  cases hr:rec (.call g args (st.hp.push (.loop .ready none st.fr ps as bd))) with
  | none=>rw [hr] at h;cases h
  | some R =>
   rw [hr] at h;simp only at h;have hsub:∀ r ∈ R,∃ M,jv st.hp.n st.fr st.rd r=some M∧∀ q ∈ M,q ∈ L:=fun r hrm=>cH h r hrm
   have hNR:∀ r ∈ R,r.hp.n≤N:=by
    intro r hrm;obtain ⟨M,h1,h2⟩:=hsub r hrm;obtain ⟨v,hp',s,pend,fr0,ps0,as0,bd0,rfl,_,_,h3⟩:=lX h1
    rcases h3 with ⟨_,rfl⟩|⟨_,rfl⟩|⟨id,_,rfl⟩ <;> exact hN _ (h2 _ (List.mem_singleton_self _))
   have hn1:st.hp.n < N:=by have:=Good.le (hK _ _ hr) hNR;exact this
   have hnone:γ.loc st.hp.n=none:=hf _ (qq6 _) hn1;obtain ⟨w1,D,ds,hh1,hsz1,hu1,hent,hdf⟩:=G4 (T:=T) (_f:=f) (ps:=ps) (as:=as) (bd:=bd) hp h0 hnone;refine wpIn_rangeFunc fun fn _=>?_
   let rcd:Loop:={state:=.ready,pending:=none,fn,tmps:=a.tmps,params:=ps,assign:=as,body:=bd,defers:=D}
   let w2:=w1.alloc (.loop rcd)
   let γ1:=γ.add st.hp.n w1.heap.size 0
   have hle:γ.Le γ1:=Gm.mR hnone;have hh2:HR γ1 (st.hp.push (.loop .ready none st.fr ps as bd)).get w2:=by rw [Hp.jP];refine hh1.new hnone (obj:=.loop rcd) rfl ⟨rfl,by rw [hle.B];exact hh1.base,fn,a.tmps,D,?_,hp.fr.mono hle,hc3,hc4,fun p hpp=>Nat.le_of_ble_eq_true (hc2 p (by simpa using hpp))⟩;show (w1.heap.push _)[w1.heap.size]?=_;simp [rcd]
   have hs1:Step γ st.hp w γ1 (st.hp.push (.loop .ready none st.fr ps as bd)) w2 :=
    ⟨Nat.le_succ _,hle,fun k hk=>Gm.bN _ _ _ (by
     have:(st.hp.push (.loop .ready none st.fr ps as bd)).n=st.hp.n+1:=rfl
     omega),hh2,by
     rw [Hp.jP]
     exact hu1.trans (jZ.new (obj:=.loop rcd) rfl rfl rfl rfl)⟩
   have hf1:fB γ1 (st.hp.push (.loop .ready none st.fr ps as bd)).n N:=hs1.fresh hf;have hl1:γ1.loc st.hp.n=some (w1.heap.size,0):=Gm.cw _ _ _ _;have hw1:Wf (st.hp.push (.loop .ready none st.fr ps as bd)):=(ej.push _ _).wf hp.wf;have hv:=(IB hp.fr hc1).mono hle;have ha:cv γ1 [.func (.yield st.hp.n) #[] #[]] [.func (.yield w1.heap.size) #[] #[]]:=.cons (.yield hl1) (cv.nil _);obtain ⟨d,hd⟩:=Cd hg hv #[.func (.yield w1.heap.size) #[] #[]] T.P w2
   have hcall:∃ f' as',(invoke d.target d.args).run T.P w2=.ok (.enter f' as') w2∧CallsIn (FW none) 0 T.P f' as' w2 (th γ1 (st.hp.push (.loop .ready none st.fr ps as bd)) w2 R):=by
    rcases vR hS (g:=.fn g args) hg hv ha hr hw1 hh2 hf1 hNR hd with x|⟨l',f',tm,asg,bd',h1,_⟩
    ·exact x
    ·exfalso;obtain ⟨fs,cs,e,_⟩:=mj hg;rw [e] at hv;obtain ⟨fs',cs',e',_,_⟩:=hv.oN;rw [e'] at hd;simp only [Deferred.ofValue] at hd;cases hd;obtain ⟨⟨fn',c',q1,q2,q3⟩,_⟩:=hS.call _ _ _ _ hr;have:=rS q1 q2 q3 (fs'++#[Value.func (.yield w1.heap.size) #[] #[]]++cs') w2;have h1':(callFunc g (fs'++#[Value.func (.yield w1.heap.size) #[] #[]]++cs')).run T.P w2=_:=h1;rw [this] at h1';cases h1'
   obtain ⟨f',as',hinv,hcl⟩:=hcall;refine ⟨w1.heap.size,ds,w2,d,w2,f',as',w2,hent fn,?_,fun _ _=>trivial,hinv,fun h=>Bool.noConfusion h,?_⟩
   ·have hres0:resolve a.eval (rangeCall f w1.heap.size) 0=Deferred.ofValue (a.eval f) #[.func (.yield w1.heap.size) #[] #[]]:=by simp [resolve,Act.eval]
    rw [hres0];exact hd
   refine CallsIn.mono (F:=FW none) hcl fun e w3 hR=>?_;obtain ⟨v,hp',v',γ',hm,rfl,_,hs2⟩:=hR;obtain ⟨M,h1,h2⟩:=hsub _ hm;obtain ⟨v0,hp0,s,pend,fr0,ps0,as0,bd0,e0,hget,hbusy,hres⟩:=lX h1;cases e0;have hl3:γ'.loc st.hp.n=some (w1.heap.size,0):=hs2.le.loc _ _ hl1;obtain ⟨_,r,hr1,hr2,hr3,_⟩:=hs2.hr.rT hget hl3;have hs3:=Step.Az (s':=.exhausted) (pend':=pend) hs2.hr hget hl3 hr1;have hend:=run_endLoop (P:=T.P) hr1 (by rw [hr2];exact hbusy);have hsall:=(hs1.trans hs2).trans hs3;have hwe:w3.putObj w1.heap.size (.loop {r with state:=.exhausted})=w3.putObj w1.heap.size (.loop {r with state:=.exhausted,pending:=pend}):=by rw [←hr3]
   rw [hwe] at hend;rw [hr3] at hend
   let st':St:=⟨st.fr,hp'.put st.hp.n (.loop .exhausted pend fr0 ps0 as0 bd0),st.rd⟩
   have hkeep:ej st.hp st'.hp:=((ej.push _ _).trans ((hK _ _ hr).2 _ hm)).trans (ej.put hp' _ _ (by rw [hget];simp) (fun _=>rfl))
   have hpre:Pre γ' st' {a with defers:=ds++a.defers} (w3.putObj w1.heap.size (.loop {r with state:=.exhausted,pending:=pend})) rd N0 :=
    ⟨hp.fr.mono hsall.le,hsall.hr,hp.rd,((hdf _ _ hs1).step hs2).step hs3,hkeep.wf hp.wf,fun b hb=>let ⟨l,q1,q2⟩:=hp.lp b hb;⟨l,hsall.le.loc _ _ q1,hkeep.loop hp.wf l q2⟩⟩
   refine ⟨pend,_,hend,?_⟩
   rcases hres with ⟨e,rfl⟩|⟨e,rfl⟩|⟨id,e,rfl⟩
   ·subst e;exact ⟨_,h2 _ (List.mem_singleton_self _),γ',rfl,hpre,rfl,hsall⟩
   ·subst e;exact wpIn_ret ⟨_,h2 _ (List.mem_singleton_self _),γ',rfl,hpre,rfl,hsall⟩
   ·subst e;exact wpIn_exit ⟨_,h2 _ (List.mem_singleton_self _),γ',rfl,hpre,rfl,hsall⟩
 ·cases h
end
theorem Eg {F:Fence} {n:Nat} {P:Program} {c:Code} {Q:Exit→Act→World→Prop} {a:Act} {w:World} (h:c.wpIn F n P Q a w) (hq:∀ l a w,¬ Q (.goto l) a w):(Code.scope c).wpIn F n P Q a w:=by
 intro b k cs hro hb hr;have h0:(lone (b.atR a (.code (.scope c) :: k)) cs w).fenced P F:=fenced_calm hb hr rfl;have s1:step P (lone (b.atR a (.code (.scope c) :: k)) cs w)=.next (lone (b.atR a (.code c :: .inScope c :: k)) cs w):=step_lone_go (by simp [stepG,stepG.exec,Frame.atR]);have s2:∀ a w,step P (lone (b.atR a (.inScope c :: k)) cs w)=.next (lone (b.atR a k) cs w):=fun a w=>step_lone_go (by simp [stepG,stepG.exec,Frame.atR]);obtain ⟨e,a₁,w₁,hq1,harr⟩:=h b (.inScope c :: k) cs hro hb hr
 cases e with
 | normal=>exact ⟨.normal,a₁,w₁,hq1,.head h0 s1 (StepsIn.trans harr (.one (fenced_calm hb hr rfl) (s2 a₁ w₁)))⟩
 | exit id =>
  have hx:exitTo id (.inScope c :: k)=exitTo id k:=by simp [exitTo]
  exact ⟨.exit id,a₁,w₁,hq1,fun k' hk=>.head h0 s1 (harr.1 k' (by rw [hx];exact hk)),fun hr' hk=>let ⟨k₁,h1,h2⟩:=harr.2 hr' (by rw [hx];exact hk);⟨k₁,h1,.head h0 s1 h2⟩⟩
 | goto l=>exact absurd hq1 (hq l a₁ w₁)
 | ret=>exact ⟨_,a₁,w₁,hq1,.of_steps (.one h0 s1) harr⟩
 | panic ch=>exact ⟨_,a₁,w₁,hq1,.of_steps (.one h0 s1) harr⟩
 | outgrown=>exact ⟨_,a₁,w₁,hq1,.of_steps (.one h0 s1) harr⟩
section
variable {T : bJ} {rec : qI → Option (List gC)} {m : Nat}
theorem lB (hT:cx T) (hK:bF rec) (hS:cI T rec m) (hD:j6 T rec):∀ (c:Code) (st:St) (L:List (Exit × St)),bE T rec c st=some L →
  ∀ {γ:Gm} {w:World} {a:Act} {rd:Option Nat} {N0 N:Nat},Pre γ st a w rd N0→codeOk a.tmps.size c=true→fB γ st.hp.n N→(∀ p ∈ L,p.2.hp.n≤N)→N0≤w.heap.size →
  c.wpIn (FW rd) 0 T.P (jz γ st.hp w a.tmps.size rd N0 L) a w:=by
 intro c
 induction c with
 | skip =>intro st L h γ w a rd N0 N hp hc hf hN h0;rw [vM] at h;cases h;exact wpIn_skip ⟨_,List.mem_singleton_self _,γ,rfl,hp,rfl,Step.refl hp.hr⟩
 | label l =>intro st L h γ w a rd N0 N hp hc hf hN h0;rw [uw] at h;cases h;exact wpIn_label ⟨_,List.mem_singleton_self _,γ,rfl,hp,rfl,Step.refl hp.hr⟩
 | exit id =>intro st L h γ w a rd N0 N hp hc hf hN h0;rw [vP] at h;cases h;exact wpIn_exit ⟨_,List.mem_singleton_self _,γ,rfl,hp,rfl,Step.refl hp.hr⟩
 | ret =>intro st L h γ w a rd N0 N hp hc hf hN h0;rw [yP] at h;cases h;exact wpIn_ret ⟨_,List.mem_singleton_self _,γ,rfl,hp,rfl,Step.refl hp.hr⟩
 | region id ops draw =>
  intro st L h γ w a rd N0 N hp hc hf hN h0;rw [bP] at h
  cases draw with
  | false =>
   simp only [cond_false] at h
   cases hx:aO T rec ops.toList ops.toList st with
   | none=>rw [hx] at h;cases h
   | some M =>rw [hx] at h;simp only [qq9] at h;subst h;simp only [codeOk,qq7] at hc;exact wpIn_region_list (x9 hT hK hS ops ops.toList st M hx γ a w hp rfl (Step.refl hp.hr) hc.2 hf (fun s hs=>hN (.normal,s) (List.mem_map.2 ⟨s,hs,rfl⟩)) fun s hs=>List.mem_map.2 ⟨s,hs,rfl⟩)
  | true =>
   simp only [cond_true] at h
   cases hx:bH T rec ops st with
   | none=>rw [hx] at h;cases h
   | some M =>rw [hx] at h;simp only [qq9] at h;subst h;exact hD id ops st M hx γ w a rd N0 N hp hc hf fun s hs=>hN (.normal,s) (List.mem_map.2 ⟨s,hs,rfl⟩)
 | seq x y ihx ihy =>
  intro st L h γ w a rd N0 N hp hc hf hN h0;simp only [codeOk,qq7] at hc;rw [i7] at h
  cases hx:bE T rec x st with
  | none=>rw [hx] at h;cases h
  | some A =>
   rw [hx] at h;simp only at h;have hsub:∀ p ∈ A,∃ M,sZ (bE T rec y) p=some M∧∀ q ∈ M,q ∈ L:=fun p hpm=>cH h p hpm
   have hA:∀ p ∈ A,p.2.hp.n≤N:=by
    intro p hpm;obtain ⟨M,h1,h2⟩:=hsub p hpm;obtain ⟨e,s⟩:=p;unfold sZ at h1
    cases e with
    | normal=>exact Good.le (ja hK y s M h1) fun q hq=>hN q (h2 q hq)
    | _=>simp only [qq9] at h1;subst h1;exact hN _ (h2 _ (List.mem_singleton_self _))
   refine wpIn_seq (Go.wpIn_mono (ihx st A hx hp hc.1 hf hA h0) fun e a1 w1 hq=>?_);obtain ⟨p,hpm,γ1,he,hp1,hsz,hs⟩:=hq;obtain ⟨M,h1,h2⟩:=hsub p hpm;obtain ⟨e',s⟩:=p;simp only at he hp1 hs;subst he;unfold sZ at h1
   cases e with
   | normal =>refine Go.wpIn_mono (ihy s M h1 hp1 (by rw [hsz];exact hc.2) (hs.fresh hf) (fun q hq=>hN q (h2 q hq)) (Nat.le_trans h0 hs.iK.size)) fun e a2 w2 hq=>?_;rw [hsz] at hq;exact hq.trans hs h2
   | _=>simp only [qq9] at h1;subst h1;exact ⟨_,h2 _ (List.mem_singleton_self _),γ1,rfl,hp1,hsz,hs⟩
 | cond x y z ihy ihz =>
  intro st L h γ w a rd N0 N hp hc hf hN h0;simp only [codeOk,qq7] at hc;rw [kB] at h
  cases hv:aF st.fr x with
  | bool t =>
   rw [hv] at h;simp only at h;have he:=(IB hp.fr hc.1.1);rw [hv] at he;refine wpIn_cond (he.cT rfl) ?_
   cases t with
   | true=>exact ihy st L h hp hc.1.2 hf hN h0
   | false=>exact ihz st L h hp hc.2 hf hN h0
  | _=>rw [hv] at h;cases h
 | block id x ih =>
  intro st L h γ w a rd N0 N hp hc hf hN h0;rw [lu] at h
  cases hx:bE T rec x st with
  | none=>rw [hx] at h;cases h
  | some A =>
   rw [hx] at h;simp only [qq9] at h;subst h;have hhp:∀ p:Exit × St,(gw id p).2=p.2:=by intro p;obtain ⟨e,s⟩:=p;unfold gw;cases e <;> rfl
   refine wpIn_block (Go.wpIn_mono (ih st A hx hp hc hf (fun p hpm=>by
    have:=hN _ (List.mem_map.2 ⟨p,hpm,rfl⟩);rw [hhp] at this
    exact this) h0) fun e a1 w1 hq=>?_)
   obtain ⟨p,hpm,γ1,he,hp1,hsz,hs⟩:=hq;have hm:gw id p ∈ A.map (gw id):=List.mem_map.2 ⟨p,hpm,rfl⟩;obtain ⟨e',s⟩:=p;simp only at he hp1 hs;subst he
   cases e with
   | exit i =>
    show if i=id then _ else _;by_cases hi:i=id
    ·subst hi;rw [if_pos rfl];have hb:gw i (.exit i,s)=(.normal,s):=by unfold gw;simp
     rw [hb] at hm;exact ⟨_,hm,γ1,rfl,hp1,hsz,hs⟩
    ·rw [if_neg hi]
     have hb:gw id (.exit i,s)=(.exit i,s):=by
      unfold gw;have:Nat.beq i id=false:=by rw [Tr.beq_eq];simpa using hi
      simp only [this,cond_false]
     rw [hb] at hm;exact ⟨_,hm,γ1,rfl,hp1,hsz,hs⟩
   | _=>exact ⟨_,hm,γ1,rfl,hp1,hsz,hs⟩
 | loop x ih =>
  intro st L h γ w a rd N0 N hp hc hf hN h0;rw [mV] at h
  cases hx:rec (.loop x st) with
  | none=>rw [hx] at h;cases h
  | some R =>
   rw [hx] at h;simp only at h
   have hm:∀ r ∈ R,∃ p ∈ L,r=.out p.1 p.2:=by
    intro r hrm;obtain ⟨M,h1,h2⟩:=cH h r hrm
    cases r with
    | ret v hp=>cases h1
    | out e s=>simp only [BN,qq9] at h1;subst h1;exact ⟨(e,s),h2 _ (List.mem_singleton_self _),rfl⟩
   exact wpIn_loop_rounds m (hS.loop x st R hx L hm γ w a rd N0 N hp hc hf (fun r hrm=>by
    obtain ⟨p,h1,rfl⟩:=hm r hrm
    exact hN p h1) h0)
 | rangeFunc f ps as bd _ _ =>intro st L h γ w a rd N0 N hp hc hf hN h0;rw [lz] at h;exact Ce hK hS h hp hc hf hN h0
 | goto l=>intro st L h;rw [vQ] at h;cases h
 | scope c ih =>intro st L h γ w a rd N0 N hp hc hf hN h0;rw [lA] at h;obtain ⟨h1,h2⟩:=oL h;refine Eg (ih st L h1 hp hc hf hN h0) fun l a w hq=>?_;obtain ⟨p,hpm,_,he,_⟩:=hq;exact h2 p hpm l he.symm
 | refuse y=>intro st L h;rw [rR] at h;cases h
theorem AA {P:Program} {fn:Func} {tmps:Array Value} {R:Ending→World→Prop} {γ:Gm}:∀ (rs:List Nat) (w:World),rs.Nodup →
  (∀ r ∈ rs,w.heap[r]?=some (.deferred (some []))∧∀ k o,γ.loc k ≠ some (r,o)) →
  (∀ w',w'.os=w.os→w'.tape=w.tape→w'.output=w.output→w'.heap.size=w.heap.size→(∀ i,i ∉ rs→w'.heap[i]?=w.heap[i]?)→LeavesIn (FW none) 0 P fn tmps R [] .returning w') →
  LeavesInM (FW none) 0 P fn tmps R (rs.map fun r=>{target:=.collected r,args:=#[]}) .returning w:=by
 intro rs
 induction rs with
 | nil=>intro w _ _ h;exact h w rfl rfl rfl rfl (fun _ _=>rfl)
 | cons r rs ih =>
  intro w hnd hr h;refine ⟨by simp,.inl ⟨r,w.putObj r (.deferred none),rfl,run_takeDeferred (hr r (by simp)).1,?_⟩⟩;have hnd':=List.nodup_cons.1 hnd;refine ih _ hnd'.2 (fun r' hr'=>?_) fun w' h1 h2 h3 h4 h5=>?_
  ·have hne:r' ≠ r:=fun e=>by subst e;exact hnd'.1 hr'
   rw [World.putObj_heap_other hne];exact hr r' (List.mem_cons_of_mem _ hr')
  ·refine h w' h1 h2 h3 (h4.trans World.putObj_size) fun i hi=>?_;have h6:i ≠ r∧i ∉ rs:=⟨fun e=>hi (by rw [e];simp),fun e=>hi (List.mem_cons_of_mem _ e)⟩;rw [h5 i h6.2,World.putObj_heap_other h6.1]
theorem Eh (hT : cx T) (hK : bF rec) (hS : cI T rec m) (hD : j6 T rec) {f : FuncId} {args : List Value} {hp : Hp} {L : List gC} (h : iB T rec (.call f args hp) = some L) :
    (∃ fn c, T.P.funcs[f]? = some fn ∧ (fn.name == "runtime.NumGoroutine") = false ∧ fn.body = some c) ∧
    ∀ γ w args' N, Wf hp → HR γ hp.get w → fB γ hp.n N → (∀ r ∈ L, r.hp.n ≤ N) → cv γ args args' → CallsIn (FW none) 0 T.P f args'.toArray w (th γ hp w L) := by
  obtain ⟨fn, c, R, h1, h2, h3, h4⟩ := nY h;obtain ⟨q1, q2, q3⟩ := hT.fn f fn h1;refine ⟨⟨fn, c, q1, q2, h2⟩, fun γ w args' N hw hh hf hN ha => ?_⟩;refine callsIn_of_wp_marks (F := FW none) q1 h2 trivial ?_ rfl;have hsub : ∀ p ∈ R, ∃ M, fG T fn.results.toList p = some M ∧ ∀ q ∈ M, q ∈ L := fun p hpm => cH h4 p hpm;have hR : ∀ p ∈ R, p.2.hp.n ≤ N := by intro p hpm;obtain ⟨M, e1, e2⟩ := hsub p hpm;obtain ⟨_, vs, _, rfl⟩ := mW e1;exact hN _ (e2 _ (List.mem_singleton_self _))
  have hok : codeOk (args'.toArray ++ Array.replicate (fn.ntmps - args'.toArray.size) undef).size c = true := Ca (by simp; omega) (q3 c h2)
  have hpre : Pre γ ⟨setArgs .leaf 0 args, hp, false⟩ { tmps := args'.toArray ++ Array.replicate (fn.ntmps - args'.toArray.size) undef, defers := [] } w none w.heap.size :=
    ⟨xP.args ha _, hh, rfl, Ar.nil _ _ _, hw, fun b hb => (by cases hb)⟩
  refine Go.wpIn_mono (lB hT hK hS hD c _ R h3 hpre hok hf hR (qq6 _)) fun e a' w' hq => ?_;obtain ⟨p, hpm, γ', he, hp', hsz, hs⟩ := hq;obtain ⟨M, e1, e2⟩ := hsub p hpm;obtain ⟨hne, vs, hvs, rfl⟩ := mW e1;have hmem := e2 _ (List.mem_singleton.2 rfl)
  have key : LeavesInM (FW none) 0 T.P fn a'.tmps (th γ hp w L) a'.defers .returning w' := by
    obtain ⟨rs, d1, d2, d3⟩ := hp'.df;rw [d1];refine AA (γ := γ') rs w' d2 (fun r hr => ⟨(d3 r hr).2.1, (d3 r hr).2.2⟩) fun w2 k1 k2 k3 k4 k5 => ?_
    have hh2 : HR γ' p.2.hp.get w2 := hp'.hr.off (by omega) (fun k b o hl => k5 b fun hb => (d3 b hb).2.2 k o hl) (fun b hb => k5 b fun hbm => by
      have h1 := (d3 b hbm).1;have h2 := hs.le.B;have h3 := hh.base
      omega)
    obtain ⟨v', r1, r2⟩ := G3 hT hh2 hp'.fr hvs;refine ⟨v', r1, dn vs, p.2.hp, v', γ', hmem, rfl, r2, hs.n, hs.le, hs.out, hh2, hs.iK.off k1 k2 k3 (by omega) fun b hb => k5 b fun hbm => ?_⟩;have := (d3 b hbm).1;omega
  obtain ⟨e', s⟩ := p;simp only at he hne;subst he
  rcases hne with rfl | rfl
  · exact key
  · exact key
theorem Cf (hT:cx T) (hK:bF rec) (hS:cI T rec m) (hD:j6 T rec) {l:Nat} {args:List Value} {hp:Hp} {L:List gC} (h:iB T rec (.round l args hp)=some L)
  (γ:Gm) (w:World) (args':List Value) (N b:Nat) (hw:Wf hp) (hl:γ.loc l=some (b,0)) (hh:HR γ hp.get w) (hf:fB γ hp.n N) (hN:∀ r ∈ L,r.hp.n≤N) (ha:cv γ args args') :
  ∃ r:Loop,w.heap[b]?=some (.loop r)∧args'.length=r.params.size ∧
   RoundIn (FW none) 0 T.P b r.fn ((r.params.zip args'.toArray).foldl (fun tmps (t,a)=>tmps.setIfInBounds t a) r.tmps) r.assign r.body w (th γ hp w L):=by
 obtain ⟨pend,fr,ps,as,bd,R,h1,h2,h3,h4⟩:=mh h;obtain ⟨_,r,r1,r2,r3,r4,r5,r6,r7,r8,r9,r10⟩:=hh.rT h1 hl;subst r4 r5 r6;refine ⟨r,r1,ha.1.symm.trans h2,?_⟩;refine roundIn_of_wpIn (F:=FW none) trivial ?_;have hz:(r.params.zip args'.toArray).foldl (fun tmps (t,a)=>tmps.setIfInBounds t a) r.tmps=(r.params.toList.zip args').foldl (fun tmps (t,a)=>tmps.setIfInBounds t a) r.tmps:=by rw [←Array.foldl_toList,Array.toList_zip]
 rw [hz];have hlen:r.params.toList.length=args'.length:=by rw [Array.length_toList];exact (ha.1.symm.trans h2).symm
 obtain ⟨f1,f2⟩:=B8 (γ:=γ) (r.params.toList.zip args) (r.params.toList.zip args') fr r.tmps r7 (by simp [ha.1]) fun i p p' x y=>by rw [List.getElem?_zip_eq_some] at x y;obtain ⟨x1,x2⟩:=x;obtain ⟨y1,y2⟩:=y;rw [x1] at y1;simp only [qq9] at y1;exact ⟨y1,ha.2 i _ _ x2 y2,by rw [←y1];exact r10 _ (by have:=List.mem_of_getElem? x1;simpa using this)⟩
 have hsub:∀ p ∈ R,∃ M,cY T rec l r.body p=some M∧∀ q ∈ M,q ∈ L:=fun p hpm=>cH h4 p hpm
 have endN:∀ {q:Exit × St} {M:List gC},gx l q=some M→(∀ x ∈ M,x ∈ L)→q.2.hp.n≤N:=by
  intro q M e1 e2;obtain ⟨_,_,_,_,_,_,_,e3⟩:=kD e1
  rcases e3 with ⟨_,rfl⟩|⟨_,rfl⟩|⟨_,_,rfl⟩ <;> exact hN _ (e2 _ (List.mem_singleton_self _))
 have hR:∀ p ∈ R,p.2.hp.n≤N:=by
  intro p hpm;obtain ⟨M,e1,e2⟩:=hsub p hpm;obtain ⟨_,_,_,_,_,_,R2,_,e4,e5⟩:=jb e1;have hg:=ja hK _ _ _ e4;have:(p.2.hp.put l _).n≤N:=Good.le hg fun q hq=>by obtain ⟨M',x1,x2⟩:=cH e5 q hq;exact endN x1 fun x hx=>e2 x (x2 x hx)
  exact this
 have hpre:Pre γ ⟨fh fr (r.params.toList.zip args),hp,true⟩ {tmps:=(r.params.toList.zip args').foldl (fun tmps (t,a)=>tmps.setIfInBounds t a) r.tmps,defers:=[]} w (some b) w.heap.size:=⟨f1,hh,rfl,Ar.nil _ _ _,hw,fun b hb=>(by cases hb;exact ⟨l,hl,by rw [h1];rfl⟩)⟩;refine Go.wpIn_mono (lB hT hK hS hD r.assign _ R h3 hpre (by rw [f2];exact r8) hf hR (qq6 _)) fun e a1 w1 hq=>?_;obtain ⟨p,hpm,γ1,he,hp1,hsz,hs⟩:=hq;obtain ⟨M,e1,e2⟩:=hsub p hpm;obtain ⟨hn,pend1,fr1,ps1,as1,Tf,R2,e3,e4,e5⟩:=jb e1;rw [hn] at he;subst he;have hl1:=hs.le.loc _ _ hl;obtain ⟨_,q,q1,q2,q3,_⟩:=hp1.hr.rT e3 hl1;have hs2:=Step.Az (s':=.busy) (pend':=pend1) hp1.hr e3 hl1 q1;have hbr:=run_beginRound (P:=T.P) q1 q2;have hweq:w1.putObj b (.loop {q with state:=.busy})=w1.putObj b (.loop {q with state:=.busy,pending:=pend1}):=by rw [←q3]
 rw [hweq] at hbr;refine ⟨_,hbr,?_⟩;have hs12:=hs.trans hs2
 have hpre2:Pre γ1 ⟨p.2.fr,p.2.hp.put l (.loop .busy pend1 fr1 ps1 as1 Tf),true⟩ a1 (w1.putObj b (.loop {q with state:=.busy,pending:=pend1})) (some b) w.heap.size :=
  ⟨hp1.fr,hs2.hr,rfl,hp1.df.step hs2,(ej.put p.2.hp _ _ (by rw [e3];simp) (fun _=>rfl)).wf hp1.wf,fun b hb=>(by cases hb;exact ⟨l,hl1,by rw [Hp.jO,if_pos rfl];rfl⟩)⟩
 have hsz':a1.tmps.size=r.tmps.size:=hsz.trans f2
 refine Go.wpIn_mono (lB hT hK hS hD r.body _ R2 e4 hpre2 (by rw [hsz'];exact r9) (hs12.fresh hf) (fun x hx=>by
  obtain ⟨M',x1,x2⟩:=cH e5 x hx
  exact endN x1 fun y hy=>e2 y (x2 y hy)) hs12.iK.size) fun e a2 w2 hq2=>?_
 obtain ⟨p2,hpm2,γ2,he2,hp2,hsz2,hs3⟩:=hq2;obtain ⟨M2,x1,x2⟩:=cH e5 p2 hpm2;obtain ⟨st4,pend4,fr4,ps4,as4,bd4,y1,y2⟩:=kD x1;have hl2:=hs3.le.loc _ _ hl1;obtain ⟨_,t,t1,_⟩:=hp2.hr.rT y1 hl2;obtain ⟨e6,s6⟩:=p2;simp only at he2 y2;subst he2
 have fin:∀ (jump:Option Code) (s':LoopState) (bo:Bool),s'=(if jump.isNone then .ready else .done)→bo=jump.isNone→(gC.ret (.bool bo) (s6.hp.put l (.loop s' jump fr4 ps4 as4 bd4))) ∈ L →
   ∃ v w',(Instr.endRound b jump).run T.P w2=.ok v w'∧th γ hp w L (.returned v) w':=by
  intro jump s' bo hs' hbo hmem;subst hs' hbo;refine ⟨_,_,run_endRound jump t1,.bool jump.isNone,_,.bool jump.isNone,γ2,hmem,rfl,.flat rfl,?_⟩;exact (hs12.trans hs3).trans (Step.Az hp2.hr y1 hl2 t1)
 rcases y2 with ⟨rfl,rfl⟩|⟨rfl,rfl⟩|⟨id,rfl,rfl⟩
 ·exact fin none .ready true rfl rfl (e2 _ (x2 _ (List.mem_singleton_self _)))
 ·exact fin (some .ret) .done false rfl rfl (e2 _ (x2 _ (List.mem_singleton_self _)))
 ·exact fin (some (.exit id)) .done false rfl rfl (e2 _ (x2 _ (List.mem_singleton_self _)))
theorem Ei (hT:cx T) (hK:bF rec) (hS:cI T rec m) (hD:j6 T rec) {c:Code} {st:St} {Lr:List gC} (h:iB T rec (.loop c st)=some Lr)
  (L:List (Exit × St)) (hL:∀ r ∈ Lr,∃ p ∈ L,r=.out p.1 p.2) (γ:Gm) (w:World) (a:Act) (rd:Option Nat) (N0 N:Nat) (hp:Pre γ st a w rd N0) (hc:codeOk a.tmps.size c=true) (hf:fB γ st.hp.n N)
  (hN:∀ r ∈ Lr,r.hp.n≤N) (h0:N0≤w.heap.size):Code.roundsIn (FW rd) 0 T.P c (jz γ st.hp w a.tmps.size rd N0 L) (m+1) a w:=by
 obtain ⟨R,h1,h2⟩:=nZ h;have hsub:∀ p ∈ R,∃ M,fj rec c p=some M∧∀ q ∈ M,q ∈ Lr:=fun p hpm=>cH h2 p hpm
 have hR:∀ p ∈ R,p.2.hp.n≤N:=by
  intro p hpm;obtain ⟨M,e1,e2⟩:=hsub p hpm
  rcases kE e1 with ⟨_,e3⟩|⟨_,rfl⟩
  ·exact Good.le (hK _ _ e3) fun q hq=>hN q (e2 q hq)
  ·exact hN _ (e2 _ (List.mem_singleton_self _))
 rw [roundsIn_succ];refine Go.wpIn_mono (lB hT hK hS hD c st R h1 hp hc hf hR h0) fun e a1 w1 hq=>?_;obtain ⟨p,hpm,γ1,he,hp1,hsz,hs⟩:=hq;obtain ⟨M,e1,e2⟩:=hsub p hpm
 rcases kE e1 with ⟨e3,e4⟩|⟨e3,rfl⟩
 ·rw [e3] at he;subst he;have:=hS.loop c p.2 M e4 L (fun r hr=>hL r (e2 r hr)) γ1 w1 a1 rd N0 N hp1 (by rw [hsz];exact hc) (hs.fresh hf) (fun r hr=>hN r (e2 r hr)) (Nat.le_trans h0 hs.iK.size);rw [hsz] at this;show Code.roundsIn _ _ _ _ _ _ _ _
  have mono:∀ k a' w',Code.roundsIn (FW rd) 0 T.P c (jz γ1 p.2.hp w1 a.tmps.size rd N0 L) k a' w'→Code.roundsIn (FW rd) 0 T.P c (jz γ st.hp w a.tmps.size rd N0 L) k a' w':=by
   intro k
   induction k with
   | zero=>intro a' w' h;exact h
   | succ k ih =>
    intro a' w' h;rw [roundsIn_succ] at h ⊢;refine Go.wpIn_mono h fun e a2 w2 hq=>?_
    cases e with
    | normal=>exact ih _ _ hq
    | _=>exact jz.trans hs hq fun _ h=>h
  exact mono _ _ _ this
 ·obtain ⟨q,hq,hqe⟩:=hL _ (e2 _ (List.mem_singleton_self _));obtain ⟨e',s⟩:=p;simp only at he e3 hqe;subst he;cases hqe;have:jz γ st.hp w a.tmps.size rd N0 L q.1 a1 w1:=⟨q,hq,γ1,rfl,hp1,hsz,hs⟩;revert e3;generalize q.1=e0 at this;intro e3;cases e0 <;> first|exact absurd rfl e3|exact this
theorem Ej (hT:cx T) (hK:bF rec) (hS:cI T rec m) (hD:j6 T rec):cI T (iB T rec) (m+1) :=
 ⟨fun _ _ _ _ h=>Eh hT hK hS hD h,fun _ _ _ _ h=>Cf hT hK hS hD h,fun _ _ _ h=>Ei hT hK hS hD h⟩
end
abbrev ord (b:List Nat) (i j:Nat):Prop:=(b.getD j 0).testBit i=true
def Cl (l:List Oper) (D:Nat→Bool):Prop:=∀ (j:Nat) (o:Oper),l[j]?=some o→D j=true→∀ e ∈ o.after.toList,Region.binds .any e=true→D e.on=true
theorem G5 {acc:List Nat} {D:Nat→Bool} (hacc:∀ j,D j=true→∀ i,(acc.getD j 0).testBit i=true→D i=true):∀ (l:List Edge),(∀ e ∈ l,Region.binds .any e=true→D e.on=true) →
  ∀ i,(vt acc l).testBit i=true→D i=true:=by
 intro l
 induction l with
 | nil=>intro _ i h;simp [vt] at h
 | cons e l ih =>
  intro hl i h;have ih':=ih (fun e he=>hl e (List.mem_cons_of_mem _ he)) i;have hp:vt acc (e :: l)=cond (Region.binds .any e) (vt acc l ||| 2 ^ e.on ||| acc.getD e.on 0) (vt acc l):=rfl;rw [hp] at h
  cases hb:Region.binds .any e with
  | false=>rw [hb] at h;exact ih' h
  | true =>
   rw [hb] at h;simp only [cond_true,Nat.testBit_or,Bool.or_eq_true,Nat.testBit_two_pow,decide_eq_true_eq] at h;have hd:=hl e (by simp) hb
   rcases h with (h|h)|h
   ·exact ih' h
   ·rw [←h];exact hd
   ·exact hacc _ hd i h
theorem IE {D:Nat→Bool}:∀ (l:List Oper) (acc:List Nat),(∀ (j:Nat) (o:Oper),l[j]?=some o→D (acc.length+j)=true→∀ e ∈ o.after.toList,Region.binds .any e=true→D e.on=true) →
  (∀ j,D j=true→∀ i,(acc.getD j 0).testBit i=true→D i=true)→∀ j,D j=true→∀ i,((Pf l acc).getD j 0).testBit i=true→D i=true:=by
 intro l
 induction l with
 | nil=>intro acc _ h;exact h
 | cons o l ih =>
  intro acc hcl hacc;refine ih _ (fun j o' ho' hD=>hcl (j+1) o' ho' (by rw [List.length_append] at hD;rw [show acc.length+(j+1)=acc.length+[vt acc o.after.toList].length+j by simp;omega];exact hD)) fun j hD i hi=>?_;rw [List.getD_eq_getElem?_getD,List.getElem?_append] at hi;split at hi
  ·rw [←List.getD_eq_getElem?_getD] at hi;exact hacc j hD i hi
  ·rename_i hlt;by_cases hj:j=acc.length
   ·subst hj;simp only [Nat.sub_self,List.getElem?_cons_zero,Option.getD_some] at hi;exact G5 hacc _ (fun e he=>hcl 0 o rfl hD e he) i hi
   ·rw [List.getElem?_eq_none (by simp;omega)] at hi;simp at hi
theorem kF {ops:Array Oper} {D:Nat→Bool} (h:Cl ops.toList D) {i j:Nat} (ho:ord (pM ops) i j) (hj:D j=true):D i=true :=
 IE ops.toList [] (fun j o hjo hD=>h j o hjo (by simpa using hD)) (fun j _ i hi=>by simp at hi) j hj i ho
theorem G6 {ops:Array Oper} {b:List Nat}:∀ {l:List (Oper × Nat)},FH ops b l=true→∀ (i j:Nat) (x y:Oper × Nat),i < j→l[i]?=some x→l[j]?=some y→x.1.apart ops y.1=true∨ord b x.2 y.2:=by
 intro l
 induction l with
 | nil=>intro _ i j x y _ h;cases h
 | cons z l ih =>
  intro h i j x y hij hi hj;obtain ⟨zo,zi⟩:=z;simp only [FH,qq7,List.all_eq_true] at h
  cases j with
  | zero=>omega
  | succ j =>
   cases i with
   | zero =>cases hi;have:=h.1 y (List.mem_of_getElem? hj);obtain ⟨yo,yj⟩:=y;simp only [Bool.or_eq_true] at this;exact this
   | succ i=>exact ih h.2 i j x y (by omega) hi hj
theorem Cg {T:bJ} {b:List Nat}:∀ {l:List Ev},bT T b l=true→∀ (i j:Nat) (t s:Ev),i < j→l[i]?=some t→l[j]?=some s→conflict s.t t.t=true→ord b s.t.idx t.t.idx∨spare T s t=true:=by
 intro l
 induction l with
 | nil=>intro _ i j x y _ h;cases h
 | cons z l ih =>
  intro h i j t s hij hi hj hc;simp only [bT,qq7,List.all_eq_true] at h
  cases j with
  | zero=>omega
  | succ j =>
   cases i with
   | zero =>cases hi;have:=h.1 s (List.mem_of_getElem? hj);rw [hc] at this;simp only [Bool.not_true,Bool.false_or,Bool.or_eq_true] at this;exact this
   | succ i=>exact ih h.2 i j t s (by omega) hi hj hc
def oa {β:Type} (f:Ev→β→β):List Ev→(Nat→Bool)→Nat→β→β
 | [],_,_,x=>x
 | ev :: es,D,i,x=>oa f es D (i+1) (if D i=true then f ev x else x)
section
variable {β : Type} {f : Ev → β → β}
theorem mo:∀ (es:List Ev) (D D':Nat→Bool) (i:Nat) (x:β),(∀ j ev,es[j]?=some ev→D (i+j) ≠ D' (i+j)→∀ x,f ev x=x)→oa f es D i x=oa f es D' i x:=by
 intro es
 induction es with
 | nil=>intros;rfl
 | cons ev es ih =>
  intro D D' i x h
  have e:(if D i=true then f ev x else x)=(if D' i=true then f ev x else x):=by
   by_cases hd:D i=D' i
   ·rw [hd]
   ·rw [h 0 ev rfl hd x];simp
  rw [oa,oa,e];exact ih D D' (i+1) _ fun j ev' hj hd=>h (j+1) ev' hj (by rw [show i+(j+1)=i+1+j by omega];exact hd)
theorem tq (es:List Ev) (D:Nat→Bool) (i:Nat) (x:β) (h:∀ j ev,es[j]?=some ev→D (i+j)=true→∀ x,f ev x=x):oa f es D i x=x:=by
 have:oa f es D i x=oa f es (fun _=>false) i x:=mo es _ _ i x fun j ev hj hd=>h j ev hj (by simpa using hd);rw [this];clear this h
 induction es generalizing i with
 | nil=>rfl
 | cons ev es ih=>rw [oa];simpa using ih (i+1)
theorem FK:∀ (es:List Ev) (D D':Nat→Bool) (i j:Nat) (ev:Ev) (x:β),es[j]?=some ev→D (i+j)=false→D' (i+j)=true→(∀ m,m ≠ i+j→D' m=D m) →
  (∀ m ev',j < m→es[m]?=some ev'→D (i+m)=true→∀ x,f ev' x=x)→oa f es D' i x=f ev (oa f es D i x):=by
 intro es
 induction es with
 | nil=>intro D D' i j ev x h;cases h
 | cons z es ih =>
  intro D D' i j ev x hj h1 h2 h3 h4
  cases j with
  | zero =>cases hj;rw [Nat.add_zero] at h1 h2;rw [oa,oa,h1,h2];simp only [if_true,Bool.false_eq_true,if_false];rw [tq es D (i+1) x fun m ev' hm hd=>h4 (m+1) ev' (by omega) hm (by rw [show i+(m+1)=i+1+m by omega];exact hd)];refine tq es D' (i+1) _ fun m ev' hm hd=>h4 (m+1) ev' (by omega) hm ?_;rw [show i+(m+1)=i+1+m by omega,←h3 _ (by omega)];exact hd
  | succ j =>rw [oa,oa,h3 i (by omega)];refine ih D D' (i+1) j ev _ hj (by rw [show i+1+j=i+(j+1) by omega];exact h1) (by rw [show i+1+j=i+(j+1) by omega];exact h2) (fun m hm=>h3 m (by omega)) fun m ev' hm hm' hd=>h4 (m+1) ev' (by omega) hm' ?_;rw [show i+(m+1)=i+1+m by omega];exact hd
theorem vS (es:List Ev) (D D':Nat→Bool) (i j:Nat) (ev:Ev) (x:β) (hj:es[j]?=some ev) (h3:∀ m,m ≠ i+j→D' m=D m) (hf:∀ x,f ev x=x):oa f es D' i x=oa f es D i x :=
 mo es D' D i x fun m ev' hm hd=>by
  by_cases hmj:m=j
  ·subst hmj;rw [hj] at hm;cases hm;exact hf
  ·exact absurd (h3 (i+m) (by omega)) hd
end
section
variable {T : bJ} {rec : qI → Option (List gC)}
def Ek (T:bJ) (_rec:qI→Option (List gC)) (ops:Array Oper) (i:Nat) (ev:Ev):Prop :=
 (aY ops.toList ev.st.fr ev.o.guard=false∧ev.v=undef∧ev.hp=ev.st.hp∧ev.t=⟨i,[],[],false,ev.st.hp.n,ev.st.hp.n⟩) ∨
 (aY ops.toList ev.st.fr ev.o.guard=true∧∃ rec',bF rec'∧aP T rec' ev.o.op i ev.st=some (ev.v,ev.hp,ev.t))
def Rn (T:bJ) (rec:qI→Option (List gC)) (ops:Array Oper) (i:Nat) (ev:Ev):Prop:=aY ops.toList ev.st.fr ev.o.guard=true→aP T rec ev.o.op i ev.st=some (ev.v,ev.hp,ev.t)
noncomputable def Ev.after (ev:Ev):St:=⟨cD ev.st.fr ev.o.dst ev.v,ev.hp,ev.st.rd⟩
def dH (T:bJ) (rec:qI→Option (List gC)) (ops:Array Oper):List Ev→Nat→St→St→Prop
 | [],_,st,st'=>st'=st
 | ev :: es,i,st,st'=>ev.st=st∧Ek T rec ops i ev∧dH T rec ops es (i+1) ev.after st'
theorem vT (hK:bF rec) (ops:Array Oper):∀ (l:List Oper) (i:Nat) (st:St) (acc:List Ev) (L:List St),bh T rec ops l i st acc=some L →
  ∃ es st',L=[st']∧dH T rec ops es i st st'∧es.map (·.o)=l∧cA T ops (es.reverse++acc)=true∧∀ j ev,es[j]?=some ev→Rn T rec ops (i+j) ev:=by
 intro l
 induction l with
 | nil =>
  intro i st acc L h;rw [cU] at h
  cases hc:cA T ops acc with
  | false=>rw [hc] at h;cases h
  | true=>rw [hc] at h;simp at h;exact ⟨[],st,h.symm,rfl,rfl,hc,fun j ev hj=>by cases hj⟩
 | cons o l ih =>
  intro i st acc L h;rw [aM] at h
  cases hg:aY ops.toList st.fr o.guard with
  | false =>
   rw [hg] at h;simp only [cond_false] at h;obtain ⟨es,st',h1,h2,h3,h4,h5⟩:=ih _ _ _ _ h;refine ⟨⟨o,st,undef,st.hp,⟨i,[],[],false,st.hp.n,st.hp.n⟩⟩ :: es,st',h1,⟨rfl,.inl ⟨hg,rfl,rfl,rfl⟩,h2⟩,by simp [h3],by simpa using h4,fun j ev hj=>?_⟩
   cases j with
   | zero=>cases hj;intro hg';rw [hg] at hg';cases hg'
   | succ j=>rw [show i+(j+1)=i+1+j by omega];exact h5 j ev hj
  | true =>
   rw [hg] at h;simp only [cond_true] at h
   cases hd:aP T rec o.op i st with
   | none=>rw [hd] at h;cases h
   | some p =>
    obtain ⟨v,hp,t⟩:=p;rw [hd] at h;obtain ⟨es,st',h1,h2,h3,h4,h5⟩:=ih _ _ _ _ h;refine ⟨⟨o,st,v,hp,t⟩ :: es,st',h1,⟨rfl,.inr ⟨hg,rec,hK,hd⟩,h2⟩,by simp [h3],by simpa using h4,fun j ev hj=>?_⟩
    cases j with
    | zero=>cases hj;exact fun _=>hd
    | succ j=>rw [show i+(j+1)=i+1+j by omega];exact h5 j ev hj
theorem u9 (hK:bF rec) (ops:Array Oper) (K:St→List Ev→Option (List St)):∀ (l:List Oper) (i:Nat) (st:St) (acc:List Ev) (L:List St),fe T rec ops l K i st acc=some L →
  ∃ es st',K st' (es.reverse++acc)=some L∧dH T rec ops es i st st'∧es.map (·.o)=l∧ej st.hp st'.hp∧∀ j ev,es[j]?=some ev→Rn T rec ops (i+j) ev:=by
 intro l
 induction l with
 | nil =>intro i st acc L h;exact ⟨[],st,h,rfl,rfl,.refl _,fun j ev hj=>by cases hj⟩
 | cons o l ih =>
  intro i st acc L h;rw [fm] at h
  cases hg:aY ops.toList st.fr o.guard with
  | false =>
   rw [hg] at h;simp only [cond_false] at h;obtain ⟨es,st',h1,h2,h3,hkk,h5⟩:=ih _ _ _ _ h;refine ⟨⟨o,st,undef,st.hp,⟨i,[],[],false,st.hp.n,st.hp.n⟩⟩ :: es,st',by simpa using h1,⟨rfl,.inl ⟨hg,rfl,rfl,rfl⟩,h2⟩,by simp [h3],hkk,fun j ev hj=>?_⟩
   cases j with
   | zero=>cases hj;intro hg';rw [hg] at hg';cases hg'
   | succ j=>rw [show i+(j+1)=i+1+j by omega];exact h5 j ev hj
  | true =>
   rw [hg] at h;simp only [cond_true] at h
   cases hd:aP T rec o.op i st with
   | none=>rw [hd] at h;cases h
   | some p =>
    obtain ⟨v,hp,t⟩:=p;rw [hd] at h;obtain ⟨es,st',h1,h2,h3,hkk,h5⟩:=ih _ _ _ _ h;refine ⟨⟨o,st,v,hp,t⟩ :: es,st',by simpa using h1,⟨rfl,.inr ⟨hg,rec,hK,hd⟩,h2⟩,by simp [h3],(lg hK hd).trans hkk,fun j ev hj=>?_⟩
    cases j with
    | zero=>cases hj;exact fun _=>hd
    | succ j=>rw [show i+(j+1)=i+1+j by omega];exact h5 j ev hj
noncomputable def Ev.at (k:Nat) (ev:Ev) (x:Option bu):Option bu:=if k ∈ ev.t.wr∨(ev.t.a≤k∧k < ev.t.b) then ev.hp.get k else x
def Ev.tm (t:Tmp) (ev:Ev) (x:Option Value):Option Value:=if ev.o.dst=some t then some ev.v else x
theorem Ek.facts {ops:Array Oper} {i:Nat} {ev:Ev} (h:Ek T rec ops i ev) (_hK:bF rec) (hw:Wf ev.st.hp) :
  ev.t.idx=i∧ev.t.a=ev.st.hp.n∧ev.t.b=ev.hp.n∧ev.st.hp.n≤ev.hp.n∧Wf ev.hp∧∀ k,k ∉ ev.t.wr→¬ (ev.t.a≤k∧k < ev.t.b)→ev.hp.get k=ev.st.hp.get k:=by
 rcases h with ⟨_,_,h2,h3⟩|⟨_,rec',hK,h⟩
 ·rw [h3,h2];exact ⟨rfl,rfl,rfl,qq6 _,hw,fun _ _ _=>rfl⟩
 ·have hk:=lg hK h;refine ⟨?_,?_,?_,hk.n,hk.wf hw,?_⟩;all_goals (unfold aP at h;split at h)
  ·split at h
   ·split at h
    ·rename_i v' hp' hj;have e:=Option.some.inj h;simp only [iQ,Prod.mk.injEq] at e;rw [←e.2.2]
    ·cases h
   ·cases h
  ·cases h
  ·split at h
   ·simp only [qq9,Prod.mk.injEq] at h;rw [←h.2.2]
   ·cases h
  ·split at h
   ·split at h
    ·rename_i v' hp' hj;have e:=Option.some.inj h;simp only [iQ,Prod.mk.injEq] at e;rw [←e.2.2]
    ·cases h
   ·cases h
  ·cases h
  ·split at h
   ·simp only [qq9,Prod.mk.injEq] at h;rw [←h.2.2]
   ·cases h
  ·split at h
   ·split at h
    ·rename_i v' hp' hj;have e:=Option.some.inj h;simp only [iQ,Prod.mk.injEq] at e;rw [←e.2.2,←e.2.1]
    ·cases h
   ·cases h
  ·cases h
  ·split at h
   ·simp only [qq9,Prod.mk.injEq] at h;rw [←h.2.2,←h.2.1]
   ·cases h
  ·split at h
   ·rename_i g _;split at h
    ·rename_i v' hp' hj;have e:=Option.some.inj h;simp only [iQ,Prod.mk.injEq] at e
     ·have hkk:=hK _ _ hj;rw [rQ] at hkk;have hkk:=hkk.2 _ (List.mem_singleton.2 rfl);intro k hwr hnr;rw [←e.2.2] at hnr hwr;rw [←e.2.1];simp only at hnr hwr;by_cases hlt:k < ev.st.hp.n
      ·exact hkk.same k hlt (ME hwr hlt)
      ·have e1:hp'.get k=none:=hkk.wf hw k (show hp'.n≤k by omega);have e2:ev.st.hp.get k=none:=hw k (by omega);rw [e2];exact e1
    ·cases h
   ·cases h
  ·cases h
  ·split at h
   ·rename_i r wr v' e htch hop;simp only [qq9,Prod.mk.injEq] at h;intro k hwr hnr;rw [←h.2.2] at hwr hnr;rw [←h.2.1];simp only at hwr hnr;obtain ⟨q1,q2⟩:=oK htch;have hin:=(pR hop).2 q1;rw [q2] at hin
    cases e with
    | none=>rfl
    | new b=>rw [show ev.st.hp.app (.new b)=ev.st.hp.push b from rfl,Hp.fk,if_neg (fun e=>hnr ⟨by omega,by rw [qt];simp [bS.news];omega⟩)]
    | put k' b=>rw [show ev.st.hp.app (.put k' b)=ev.st.hp.put k' b from rfl,Hp.jO,if_neg (fun e=>hwr (by rw [e];exact hin))]
    | app k' b =>
     rw [show ev.st.hp.app (.app k' b)=(ev.st.hp.put k' .dead).push b from rfl,Hp.fk,if_neg (fun e=>hnr ⟨by
      have:(ev.st.hp.put k' .dead).n=ev.st.hp.n:=rfl
      omega,by
      have:(ev.st.hp.put k' .dead).n=ev.st.hp.n:=rfl
      rw [qt];simp [bS.news];omega⟩),Hp.jO,if_neg (fun e=>hwr (by rw [e];exact hin))]
   ·cases h
theorem dH.get {ops:Array Oper} (hK:bF rec):∀ {es:List Ev} {i:Nat} {st st':St},dH T rec ops es i st st'→Wf st.hp→∀ (j:Nat) (ev:Ev),es[j]?=some ev →
  Ek T rec ops (i+j) ev∧Wf ev.st.hp∧st.hp.n≤ev.st.hp.n∧ev.hp.n≤st'.hp.n∧ev.st.rd=st.rd ∧
   (∀ k,ev.st.hp.get k=oa (Ev.at k) es (fun m=>decide (m < i+j)) i (st.hp.get k))∧(∀ t,ev.st.fr.get t=oa (Ev.tm t) es (fun m=>decide (m < i+j)) i (st.fr.get t)):=by
 intro es
 induction es with
 | nil=>intro i st st' _ _ j ev h;cases h
 | cons z es ih =>
  intro i st st' hc hw j ev hj;obtain ⟨rfl,h2,h3⟩:=hc;obtain ⟨f1,f2,f3,f4,f5,f6⟩:=h2.facts hK hw
  have hn':∀ {es:List Ev} {i:Nat} {st st':St},dH T rec ops es i st st'→Wf st.hp→st.hp.n≤st'.hp.n:=by
   intro es
   induction es with
   | nil=>intro i st st' h _;rw [show st'=st from h];exact qq6 _
   | cons z es ih =>intro i st st' h hw;obtain ⟨rfl,h2,h3⟩:=h;obtain ⟨_,_,_,q4,q5,_⟩:=h2.facts hK hw;exact Nat.le_trans q4 (ih h3 q5)
  cases j with
  | zero =>
   cases hj;refine ⟨h2,hw,qq6 _,hn' h3 f5,rfl,fun k=>?_,fun t=>?_⟩
   ·exact (tq _ _ _ _ fun m ev' hm hd=>by have:=of_decide_eq_true hd;omega).symm
   ·exact (tq _ _ _ _ fun m ev' hm hd=>by have:=of_decide_eq_true hd;omega).symm
  | succ j =>
   obtain ⟨g1,g2,g3,g4,g5,g6,g7⟩:=ih h3 f5 j ev hj;rw [show i+1+j=i+(j+1) by omega] at g1 g6 g7;refine ⟨g1,g2,Nat.le_trans f4 g3,g4,g5,fun k=>?_,fun t=>?_⟩
   ·rw [g6 k,oa];have:decide (i < i+(j+1))=true:=by simp
    rw [if_pos this]
    congr 1
    show z.hp.get k=z.at k (z.st.hp.get k);unfold Ev.at;split
    ·rfl
    ·rename_i hn;exact f6 k (fun h=>hn (.inl h)) (fun h=>hn (.inr h))
   ·rw [g7 t,oa];have:decide (i < i+(j+1))=true:=by simp
    rw [if_pos this]
    congr 1
    show (cD z.st.fr z.o.dst z.v).get t=z.tm t (z.st.fr.get t);unfold Ev.tm cD
    cases z.o.dst with
    | none=>rfl
    | some d =>
     rw [Tr.eY];by_cases htd:t=d
     ·subst htd;simp
     ·rw [if_neg htd,if_neg (fun e=>htd (by cases e;rfl))]
theorem dH.last {ops:Array Oper} (hK:bF rec):∀ {es:List Ev} {i:Nat} {st st':St},dH T rec ops es i st st'→Wf st.hp→∀ (D:Nat→Bool),(∀ j,j < es.length→D (i+j)=true) →
  (∀ k,st'.hp.get k=oa (Ev.at k) es D i (st.hp.get k))∧(∀ t,st'.fr.get t=oa (Ev.tm t) es D i (st.fr.get t))∧st'.rd=st.rd∧st.hp.n≤st'.hp.n∧Wf st'.hp:=by
 intro es
 induction es with
 | nil=>intro i st st' h hw D _;rw [show st'=st from h];exact ⟨fun _=>rfl,fun _=>rfl,rfl,qq6 _,hw⟩
 | cons z es ih =>
  intro i st st' hc hw D hD;obtain ⟨rfl,h2,h3⟩:=hc;obtain ⟨f1,f2,f3,f4,f5,f6⟩:=h2.facts hK hw;obtain ⟨g1,g2,g3,g4,g5⟩:=ih h3 f5 D fun j hj=>by rw [show i+1+j=i+(j+1) by omega];exact hD (j+1) (by simp;omega)
  have h0:D i=true:=hD 0 (by simp);refine ⟨fun k=>?_,fun t=>?_,g3,Nat.le_trans f4 g4,g5⟩
  ·rw [g1 k,oa,if_pos h0]
   congr 1
   show z.hp.get k=z.at k (z.st.hp.get k);unfold Ev.at;split
   ·rfl
   ·rename_i hn;exact f6 k (fun h=>hn (.inl h)) (fun h=>hn (.inr h))
  ·rw [g2 t,oa,if_pos h0]
   congr 1
   show (cD z.st.fr z.o.dst z.v).get t=z.tm t (z.st.fr.get t);unfold Ev.tm cD
   cases z.o.dst with
   | none=>rfl
   | some d =>
    rw [Tr.eY];by_cases htd:t=d
    ·subst htd;simp
    ·rw [if_neg htd,if_neg (fun e=>htd (by cases e;rfl))]
theorem dH.mono {ops:Array Oper} (hK:bF rec):∀ {es:List Ev} {i:Nat} {st st':St},dH T rec ops es i st st'→Wf st.hp→∀ (j m:Nat) (ev ev':Ev),j < m→es[j]?=some ev→es[m]?=some ev'→ev.hp.n≤ev'.st.hp.n:=by
 intro es
 induction es with
 | nil=>intro i st st' _ _ j m ev ev' _ h;cases h
 | cons z es ih =>
  intro i st st' hc hw j m ev ev' hjm hj hm;obtain ⟨rfl,h2,h3⟩:=hc;obtain ⟨f1,f2,f3,f4,f5,f6⟩:=h2.facts hK hw
  cases m with
  | zero=>omega
  | succ m =>
   cases j with
   | zero =>cases hj;exact (dH.get hK h3 f5 m ev' hm).2.2.1
   | succ j=>exact ih h3 f5 j m ev ev' (by omega) hj hm
end
section
variable {T : bJ} {rec : qI → Option (List gC)} {m : Nat}
theorem IG (hS:cI T rec m) {γ:Gm} {w:World} {a:Act} {rd:Option Nat} {o:Oper} (hnd:∀ c,o.op ≠ .defer c) {vf vf':Value} {vs args':List Value}
  {g:Goal} {H:Hp} {R:List gC} {N:Nat} (hg:cO vf vs=some g) (hr:rec (gJ H g)=some R) (hw:Wf H) (hh:HR γ H.get w) (hf:fB γ H.n N) (hN:∀ r ∈ R,r.hp.n≤N)
  (hv:VR γ vf vf') (ha:cv γ vs args') (hx:∀ d,(Deferred.ofValue vf' args'.toArray).run T.P w=.ok d w→(execOp a.eval o).run T.P w=(invoke d.target d.args).run T.P w) {next:Act→World→Prop} {Q:Exit→Act→World→Prop}
  (hback:∀ v w',th γ H w R (.returned v) w'→next (a.put o.dst v) w'):o.wpIn (FW rd) 0 T.P a w next Q:=by
 have hd:∃ d,(Deferred.ofValue vf' args'.toArray).run T.P w=.ok d w:=by
  cases g with
  | fn f' as' =>obtain ⟨fs,cs,e,_⟩:=mj hg;rw [e] at hv;obtain ⟨fs',cs',e',_,_⟩:=hv.oN;rw [e'];exact ⟨_,rfl⟩
  | yield l as' =>obtain ⟨fs,cs,e,_⟩:=mX hg;rw [e] at hv;obtain ⟨_,b,e',_⟩:=hv.tj;rw [e'];exact ⟨_,rfl⟩
 obtain ⟨d,hd⟩:=hd
 have hback':∀ e w',th γ H w R e w'→(match e with
   | .returned v=>next (a.put o.dst v) w'
   | .panicked chain=>Q (.panic chain) a w'
   | .outgrown=>LetsOut Q):=by
  intro e w' hR;have hR':=hR;obtain ⟨v,hp,v',γ',hm,he,hv',hs⟩:=hR;subst he;exact hback v' w' hR'
 refine ⟨fun _ _=>trivial,?_⟩;have he:o.semAt rd a.eval=execOp a.eval o:=Oper.semAt_plain (FW rd) _ _ hnd;show o.uponIn _ _ _ _ _ _ ((o.semAt rd a.eval).run T.P w);rw [he];have hx:=hx d hd;rw [hx]
 rcases vR hS hg hv ha hr hw hh hf hN hd with ⟨f',as',h1,h2⟩|⟨l,f',tm,asg,bd,h1,h2⟩
 ·rw [h1];refine ⟨fun h=>Bool.noConfusion h,?_⟩;exact CallsIn.mono (F:=FW none) h2 fun e w' he=>by have:=hback' e w' he;cases e <;> exact this
 ·rw [h1];refine ⟨fun h=>Bool.noConfusion h,?_⟩;exact RoundIn.mono (F:=FW none) h2 fun e w' he=>by have:=hback' e w' he;cases e <;> exact this
noncomputable def gD (es:List Ev) (st0:St) (D:Nat→Bool) (k:Nat):Option bu:=oa (Ev.at k) es D 0 (st0.hp.get k)
noncomputable def fD (es:List Ev) (st0:St) (D:Nat→Bool) (t:Tmp):Option Value:=oa (Ev.tm t) es D 0 (st0.fr.get t)
structure Ctx (T:bJ) (rec:qI→Option (List gC)) (m:Nat) (ops:Array Oper) (es:List Ev) (st0 stF:St):Prop where
 hT:cx T
 hK:bF rec
 hS:cI T rec m
 ch:dH T rec ops es 0 st0 stF
 wf:Wf st0.hp
 os:es.map (·.o)=ops.toList.take es.length
 sep:∀ i j x y,i < j→ops.toList[i]?=some x→ops.toList[j]?=some y→x.apart ops y=true∨ord (pM ops) i j
 El:∀ i j ev ev',i < j→es[i]?=some ev→es[j]?=some ev'→conflict ev.t ev'.t=true→ord (pM ops) i j∨spare T ev ev'=true
structure Inv (es:List Ev) (st0 stF:St) (γ0:Gm) (w0:World) (a0:Act) (D:Nat→Bool) (γ:Gm) (a:Act) (w:World):Prop where
 le:γ0.Le γ
 out:∀ k,(k < st0.hp.n∨stF.hp.n≤k)→γ.loc k=γ0.loc k
 fresh:∀ j ev,es[j]?=some ev→D j=false→∀ k,ev.t.a≤k→k < ev.t.b→γ.loc k=none
 hr:HR γ (gD es st0 D) w
 iK:jZ γ0 st0.hp.get w0 γ (gD es st0 D) w
 tm:∀ t,VR γ ((fD es st0 D t).getD undef) (a.tmps.getD t undef)
 sz:a.tmps.size=a0.tmps.size
 df:a.defers=a0.defers
theorem eG {a b:List Nat}:meets a b=true ↔ ∃ k,k ∈ a∧k ∈ b:=by
 simp only [meets,List.any_eq_true];constructor
 ·rintro ⟨x,hx,y,hy,h⟩;obtain rfl:=Nat.eq_of_beq_eq_true h;exact ⟨x,hx,hy⟩
 ·rintro ⟨k,h1,h2⟩;exact ⟨k,h1,k,h2,Nat.beq_refl k⟩
theorem within_iff {a b:Nat} {l:List Nat}:within a b l=true ↔ ∃ k ∈ l,a≤k∧k < b:=by
 simp only [within,List.any_eq_true,qq7];constructor
 ·rintro ⟨k,h1,h2,h3⟩;exact ⟨k,h1,Nat.le_of_ble_eq_true h2,Nat.le_of_ble_eq_true h3⟩
 ·rintro ⟨k,h1,h2,h3⟩;exact ⟨k,h1,Nat.ble_eq_true_of_le h2,Nat.ble_eq_true_of_le h3⟩
def Ev.turns (ev:Ev) (k:Nat):Prop:=k ∈ ev.t.wr∨(ev.t.a≤k∧k < ev.t.b)
theorem Ev.Ch {ev:Ev} {k:Nat} (h:¬ ev.turns k) (x:Option bu):ev.at k x=x:=if_neg h
theorem Ev.FL {ev:Ev} {k:Nat} (h:ev.turns k) (x:Option bu):ev.at k x=ev.hp.get k:=if_pos h
theorem qu {s t:Tc} {k:Nat} (hs:k ∈ s.wr∨(s.a≤k∧k < s.b)) (ht:k ∈ t.rd∨k ∈ t.wr):conflict s t=true:=by
 simp only [conflict,Bool.or_eq_true,eG,within_iff]
 rcases hs with h|h <;> rcases ht with h'|h'
 ·exact .inl (.inl (.inl (.inl (.inl (.inl (.inl (.inl ⟨k,h,h'⟩)))))))
 ·exact .inl (.inl (.inl (.inl (.inl (.inl (.inl (.inr ⟨k,h,h'⟩)))))))
 ·exact .inl (.inl (.inl (.inr ⟨k,h',h⟩)))
 ·exact .inl (.inl (.inr ⟨k,h',h⟩))
theorem kG {s t:Tc} {k:Nat} (ht:k ∈ t.wr∨(t.a≤k∧k < t.b)) (hs:k ∈ s.rd∨k ∈ s.wr):conflict s t=true:=by
 simp only [conflict,Bool.or_eq_true,eG,within_iff]
 rcases ht with h|h <;> rcases hs with h'|h'
 ·exact .inl (.inl (.inl (.inl (.inl (.inl (.inr ⟨k,h,h'⟩))))))
 ·exact .inl (.inl (.inl (.inl (.inl (.inl (.inl (.inr ⟨k,h',h⟩)))))))
 ·exact .inl (.inr ⟨k,h',h⟩)
 ·exact .inr ⟨k,h',h⟩
theorem qv {s t:Tc} {k:Nat} (hc:s.call=true) (h:k ∈ t.wr):conflict s t=true∧conflict t s=true:=by
 have:t.wr.isEmpty=false:=by cases hh:t.wr with
  | nil=>rw [hh] at h;cases h
  | cons=>rfl
 simp [conflict,hc,this]
theorem mZ {ev ev':Ev} (h:spare T ev ev'=true):∃ r,ev.t.rd=[r]∧ev.t.wr=[]∧ev.t.a=ev.t.b∧ev.t.call=false∧ev'.t.call=false∧gX T ev.st.hp.n ev.o.op (aF ev.st.fr) ev'.hp.get=some (ev.v,.none):=by
 unfold spare at h;split at h
 ·rename_i r h1 h2;simp only [qq7,Bool.not_eq_true'] at h;obtain ⟨⟨⟨h3,h4⟩,h5⟩,h6⟩:=h;split at h6
  ·rename_i v ho;obtain ⟨rfl,_⟩:=Aq h6;exact ⟨r,h1,h2,Nat.eq_of_beq_eq_true h3,h4,h5,ho⟩
  ·cases h6
 ·cases h
theorem lC {ev ev':Ev} (h:spare T ev ev'=true) (k:Nat):¬ ev.turns k:=by
 obtain ⟨r,_,h2,h3,_⟩:=mZ h;intro ht
 rcases ht with ht|ht
 ·rw [h2] at ht;cases ht
 ·omega
theorem II (k:Nat):∀ (es:List Ev) (D:Nat→Bool) (i:Nat) (x:Option bu),(∀ j ev,es[j]?=some ev→D (i+j)=true→¬ ev.turns k) ∨
  ∃ j ev,es[j]?=some ev∧D (i+j)=true∧ev.turns k∧oa (Ev.at k) es D i x=ev.hp.get k∧∀ j' ev',j < j'→es[j']?=some ev'→D (i+j')=true→¬ ev'.turns k:=by
 intro es
 induction es with
 | nil=>intro D i x;exact .inl fun j ev h=>by cases h
 | cons z es ih =>
  intro D i x
  rcases ih D (i+1) (if D i=true then z.at k x else x) with h|⟨j,ev,h1,h2,h3,h4,h5⟩
  ·by_cases hz:D i=true∧z.turns k
   ·refine .inr ⟨0,z,rfl,hz.1,hz.2,?_,fun j' ev' hj he hD=>?_⟩
    ·rw [oa,if_pos hz.1,tq es D (i+1) _ fun j ev hj hD x=>Ev.Ch (h j ev hj hD) x];exact Ev.FL hz.2 _
    ·cases j' with
     | zero=>omega
     | succ j'=>exact h j' ev' he (by rw [show i+1+j'=i+(j'+1) by omega];exact hD)
   ·refine .inl fun j ev hj hD=>?_
    cases j with
    | zero=>cases hj;exact fun ht=>hz ⟨hD,ht⟩
    | succ j=>exact h j ev hj (by rw [show i+1+j=i+(j+1) by omega];exact hD)
  ·refine .inr ⟨j+1,ev,h1,by rw [show i+(j+1)=i+1+j by omega];exact h2,h3,h4,fun j' ev' hj he hD=>?_⟩
   cases j' with
   | zero=>omega
   | succ j'=>exact h5 j' ev' (by omega) he (by rw [show i+1+j'=i+(j'+1) by omega];exact hD)
section
variable {ops : Array Oper} {es : List Ev} {st0 stF : St} {γ0 : Gm} {w0 : World} {a0 : Act} {D D' : Nat → Bool} {γ : Gm} {a : Act} {w : World} {j : Nat} {ev : Ev}
structure DV (ops:Array Oper) (es:List Ev) (D D':Nat→Bool) (j:Nat) (ev:Ev):Prop where
 hj:es[j]?=some ev
 d:D j=false
 d':D' j=true
 same:∀ m,m ≠ j→D' m=D m
 cl:Cl ops.toList D
 T1:Cl ops.toList D'
theorem DV.before (n:DV ops es D D' j ev) {i:Nat} (hi:i ≠ j) (h:ord (pM ops) i j):D i=true:=by rw [←n.same i hi];exact kF n.T1 h n.d'
theorem DV.behind (n:DV ops es D D' j ev) {i:Nat} (h:ord (pM ops) j i) (hD:D i=true):False:=by have:=kF n.cl h hD;rw [n.d] at this;cases this
theorem Ctx.oper (C:Ctx T rec m ops es st0 stF) {i:Nat} {e:Ev} (h:es[i]?=some e):ops.toList[i]?=some e.o:=by
 have h1:(es.map (·.o))[i]?=some e.o:=by rw [List.getElem?_map,h];rfl
 rw [C.os,List.getElem?_take] at h1;split at h1
 ·exact h1
 ·cases h1
theorem Ctx.at (C:Ctx T rec m ops es st0 stF) {i:Nat} {e:Ev} (h:es[i]?=some e) :
  Ek T rec ops i e∧Wf e.st.hp∧st0.hp.n≤e.st.hp.n∧e.hp.n≤stF.hp.n∧e.st.rd=st0.rd ∧
   (∀ k,e.st.hp.get k=gD es st0 (fun q=>decide (q < i)) k)∧(∀ t,e.st.fr.get t=fD es st0 (fun q=>decide (q < i)) t):=by
 have:=dH.get C.hK C.ch C.wf i e h;rw [Nat.zero_add] at this;exact this
theorem Ctx.facts (C:Ctx T rec m ops es st0 stF) {i:Nat} {e:Ev} (h:es[i]?=some e) :
 e.t.idx=i∧e.t.a=e.st.hp.n∧e.t.b=e.hp.n∧e.st.hp.n≤e.hp.n∧Wf e.hp∧∀ k,k ∉ e.t.wr→¬ (e.t.a≤k∧k < e.t.b)→e.hp.get k=e.st.hp.get k:=(C.at h).1.facts C.hK (C.at h).2.1
theorem Ctx.vU (C:Ctx T rec m ops es st0 stF) (n:DV ops es D D' j ev) {t:Tmp} (ht:t ∈ ev.o.looksAt ops):fD es st0 D t=ev.st.fr.get t:=by
 rw [(C.at n.hj).2.2.2.2.2.2 t];refine mo es _ _ 0 _ fun i e hi hd x=>?_;rw [Nat.zero_add] at hd;unfold Ev.tm;by_cases hdst:e.o.dst=some t
 ·exfalso
  rcases Nat.lt_trichotomy i j with hlt|rfl|hgt
  ·have hDi:D i=false:=by
    cases h:D i with
    | false=>rfl
    | true=>rw [h] at hd;simp [hlt] at hd
   rcases C.sep i j _ _ hlt (C.oper hi) (C.oper n.hj) with hap|ho
   ·exact (Oper.apart_spec hap).1 t hdst ht
   ·rw [n.before (by omega) ho] at hDi;cases hDi
  ·rw [n.d] at hd;simp at hd
  ·have hDi:D i=true:=by
    cases h:D i with
    | true=>rfl
    | false=>rw [h] at hd;simp at hd;omega
   rcases C.sep j i _ _ hgt (C.oper n.hj) (C.oper hi) with hap|ho
   ·exact (Oper.apart_spec hap).2.2 t hdst ht
   ·exact n.behind ho hDi
 ·rw [if_neg hdst]
theorem Ctx.MF (C:Ctx T rec m ops es st0 stF) (n:DV ops es D D' j ev) (t:Tmp):fD es st0 D' t=if ev.o.dst=some t then some ev.v else fD es st0 D t:=by
 by_cases hdst:ev.o.dst=some t
 ·rw [if_pos hdst]
  have:=FK (f:=Ev.tm t) es D D' 0 j ev (st0.fr.get t) n.hj (by rw [Nat.zero_add];exact n.d) (by rw [Nat.zero_add];exact n.d') (fun q hq=>n.same q (by omega)) fun i e hi he hD x=>by
   rw [Nat.zero_add] at hD;unfold Ev.tm;refine if_neg fun hd=>?_
   rcases C.sep j i _ _ hi (C.oper n.hj) (C.oper he) with hap|ho
   ·exact (Oper.apart_spec hap).2.1 t hdst hd
   ·exact n.behind ho hD
  show oa (Ev.tm t) es D' 0 _=_;rw [this];exact if_pos hdst
 ·rw [if_neg hdst];exact vS es D D' 0 j ev _ n.hj (fun q hq=>n.same q (by omega)) fun x=>if_neg hdst
theorem Ctx.vV (C:Ctx T rec m ops es st0 stF) (n:DV ops es D D' j ev) {k:Nat} (hk:k ∈ ev.t.rd∨k ∈ ev.t.wr) (hlast:∀ i e,j < i→es[i]?=some e→D i=true→¬ e.turns k):gD es st0 D k=ev.st.hp.get k:=by
 rw [(C.at n.hj).2.2.2.2.2.1 k];refine mo es _ _ 0 _ fun i e hi hd x=>?_;rw [Nat.zero_add] at hd;by_cases ht:e.turns k
 ·exfalso
  rcases Nat.lt_trichotomy i j with hlt|rfl|hgt
  ·have hDi:D i=false:=by
    cases h:D i with
    | false=>rfl
    | true=>rw [h] at hd;simp [hlt] at hd
   rcases C.El i j _ _ hlt hi n.hj (qu ht hk) with ho|hsp
   ·rw [n.before (by omega) ho] at hDi;cases hDi
   ·exact lC hsp k ht
  ·rw [n.d] at hd;simp at hd
  ·have hDi:D i=true:=by
    cases h:D i with
    | true=>rfl
    | false=>rw [h] at hd;simp at hd;omega
   exact hlast i e hgt hi hDi ht
 ·exact Ev.Ch ht x
theorem Ctx.Ci (C:Ctx T rec m ops es st0 stF) (n:DV ops es D D' j ev) {k:Nat} (hk:ev.turns k) {i:Nat} {e:Ev} (hi:j < i) (he:es[i]?=some e) (hD:D i=true):¬ e.turns k:=by
 intro ht;obtain ⟨_,f2,f3,f4,_⟩:=C.facts n.hj;obtain ⟨_,g2,g3,g4,_⟩:=C.facts he;have hm:=dH.mono C.hK C.ch C.wf j i ev e hi n.hj he;have hk0:=hk
 rcases hk with hk|hk
 ·rcases C.El j i _ _ hi n.hj he (kG ht (.inr hk)) with ho|hsp
  ·exact n.behind ho hD
  ·exact lC hsp k hk0
 ·rcases ht with ht|ht
  ·rcases C.El j i _ _ hi n.hj he (qu (.inr hk) (.inr ht)) with ho|hsp
   ·exact n.behind ho hD
   ·exact lC hsp k hk0
  ·omega
theorem Ctx.AD (C:Ctx T rec m ops es st0 stF) (n:DV ops es D D' j ev) {k:Nat} (hk:ev.turns k):gD es st0 D' k=ev.hp.get k:=by
 have:=FK (f:=Ev.at k) es D D' 0 j ev (st0.hp.get k) n.hj (by rw [Nat.zero_add];exact n.d) (by rw [Nat.zero_add];exact n.d') (fun q hq=>n.same q (by omega)) fun i e hi he hD x=>by rw [Nat.zero_add] at hD;exact Ev.Ch (C.Ci n hk hi he hD) x
 show oa (Ev.at k) es D' 0 _=_;rw [this];exact Ev.FL hk _
theorem Ctx.nc (_C:Ctx T rec m ops es st0 stF) (n:DV ops es D D' j ev) {k:Nat} (hk:¬ ev.turns k):gD es st0 D' k=gD es st0 D k :=
 vS es D D' 0 j ev _ n.hj (fun q hq=>n.same q (by omega)) fun x=>Ev.Ch hk x
theorem Inv.vj (C:Ctx T rec m ops es st0 stF) (n:DV ops es D D' j ev) (I:Inv es st0 stF γ0 w0 a0 D γ a w) {γ':Gm} (hle:γ.Le γ') {v':Value} (hv:VR γ' ev.v v') (hd:∀ d,ev.o.dst=some d→d < a.tmps.size) (t:Tmp) :
  VR γ' ((fD es st0 D' t).getD undef) ((a.put ev.o.dst v').tmps.getD t undef):=by
 rw [C.MF n t]
 cases hdst:ev.o.dst with
 | none=>simp only [reduceCtorEq,if_false,Act.put];exact (I.tm t).mono hle
 | some d =>
  show VR γ' _ ((a.tmps.setIfInBounds d v').getD t undef);rw [B6 (hd d hdst)];by_cases htd:t=d
  ·subst htd;rw [if_pos rfl,if_pos rfl];exact hv
  ·rw [if_neg htd,if_neg (fun e=>htd (by cases e;rfl))];exact (I.tm t).mono hle
theorem Inv.ng (C:Ctx T rec m ops es st0 stF) (n:DV ops es D D' j ev) (I:Inv es st0 stF γ0 w0 a0 D γ a w) {γ':Gm} (hout:∀ k,(k < ev.st.hp.n∨ev.hp.n≤k)→γ'.loc k=γ.loc k) :
  ∀ i e,es[i]?=some e→D' i=false→∀ k,e.t.a≤k→k < e.t.b→γ'.loc k=none:=by
 intro i e he hD k h1 h2;have hij:i ≠ j:=fun h=>by subst h;rw [n.d'] at hD;cases hD
 rw [n.same i hij] at hD;obtain ⟨_,f2,f3,f4,_⟩:=C.facts n.hj;obtain ⟨_,g2,g3,g4,_⟩:=C.facts he;rw [hout k,I.fresh i e he hD k h1 h2]
 rcases Nat.lt_or_gt_of_ne hij with h|h
 ·have:=dH.mono C.hK C.ch C.wf i j e ev h he n.hj;omega
 ·have:=dH.mono C.hK C.ch C.wf j i ev e h n.hj he;omega
theorem Cj {o:Oper} {t:Tmp} (h:Operand.tmp t ∈ o.op.operands):t ∈ o.looksAt ops:=by unfold Oper.looksAt;refine List.mem_append.2 (.inl (List.mem_filterMap.2 ⟨.tmp t,by simpa using h,rfl⟩))
theorem qw {o q:Oper} {g:Nat} {want:Bool} {d:Tmp} (h:o.guard=some (g,want)) (hq:ops[g]?=some q) (hd:q.dst=some d):d ∈ o.looksAt ops:=by unfold Oper.looksAt;refine List.mem_append.2 (.inr ?_);rw [h];simp [hq,hd]
theorem Inv.eval (C:Ctx T rec m ops es st0 stF) (n:DV ops es D D' j ev) (I:Inv es st0 stF γ0 w0 a0 D γ a w) (hok:fZ a.tmps.size ev.o=true):∀ x ∈ ev.o.op.operands,VR γ (aF ev.st.fr x) (a.eval x):=by
 intro x hx;simp only [fZ,qq7,List.all_eq_true] at hok;have hxo:=hok.1 x (by simpa using hx)
 cases x with
 | tmp t =>have:=I.tm t;rw [C.vU n (Cj hx)] at this;exact this
 | const v=>exact VR.of_flat hxo
 | global g=>cases hxo
 | func f=>exact .func rfl rfl (fun i a _=>absurd a (by simp)) (fun i a _=>absurd a (by simp))
theorem Inv.tu (C:Ctx T rec m ops es st0 stF) (n:DV ops es D D' j ev) (I:Inv es st0 stF γ0 w0 a0 D γ a w) (hcall:ev.t.call=true) (hwr:∀ k ∈ ev.t.wr,k < ev.st.hp.n) :
  HR γ ev.st.hp.get w∧(∀ {γ':Gm} {w':World} {H H':Hp},H.get=ev.st.hp.get→H.n=ev.st.hp.n→H'.get=ev.hp.get→H'.n=ev.hp.n→Step γ H w γ' H' w'→HR γ' (gD es st0 D') w'∧jZ γ (gD es st0 D) w γ' (gD es st0 D') w'):=by
 obtain ⟨f1,f2,f3,f4,f5,f6⟩:=C.facts n.hj;obtain ⟨_,wf,_,_,_,hsel,_⟩:=C.at n.hj
 have agree:∀ k,γ.loc k ≠ none→k < ev.st.hp.n→gD es st0 D k=ev.st.hp.get k:=by
  intro k hl hlt;rw [hsel k];refine mo es _ _ 0 _ fun i e hi hd x=>?_;rw [Nat.zero_add] at hd;by_cases ht:e.turns k
  ·exfalso;obtain ⟨_,g2,g3,g4,_⟩:=C.facts hi
   rcases Nat.lt_trichotomy i j with hij|rfl|hij
   ·have hDi:D i=false:=by
     cases h:D i with
     | false=>rfl
     | true=>rw [h] at hd;simp [hij] at hd
    rcases ht with ht|ht
    ·rcases C.El i j _ _ hij hi n.hj (qv hcall ht).2 with ho|hsp
     ·rw [n.before (by omega) ho] at hDi;cases hDi
     ·exact lC hsp k (.inl ht)
    ·exact hl (I.fresh i e hi hDi k ht.1 ht.2)
   ·rw [n.d] at hd;simp at hd
   ·have hDi:D i=true:=by
     cases h:D i with
     | true=>rfl
     | false=>rw [h] at hd;simp at hd;omega
    rcases ht with ht|ht
    ·rcases C.El j i _ _ hij n.hj hi (qv hcall ht).1 with ho|hsp
     ·exact n.behind ho hDi
     ·obtain ⟨_,_,_,_,hnc,_⟩:=mZ hsp;rw [hcall] at hnc;cases hnc
    ·have:=dH.mono C.hK C.ch C.wf j i ev e hij n.hj hi;omega
  ·exact Ev.Ch ht x
 have there:∀ k a,ev.st.hp.get k=some a→k < ev.st.hp.n:=fun k a h=>by apply Nat.lt_of_not_le;intro hle;rw [wf k hle] at h;cases h
 have hr0:HR γ ev.st.hp.get w:=by
  refine ⟨fun k b o x hx hl=>?_,fun k k' b o o' x x' hx ho hx' hd hne hl hl'=>?_,I.hr.lt,I.hr.base,I.hr.gl⟩
  ·exact I.hr.gE k b o x (by rw [agree k (by rw [hl];simp) (there k x hx)];exact hx) hl
  ·exact I.hr.inj k k' b o o' x x' (by rw [agree k (by rw [hl];simp) (there k x hx)];exact hx) ho (by rw [agree k' (by rw [hl'];simp) (there k' x' hx')];exact hx') hd hne hl hl'
 refine ⟨hr0,fun {γ' w' H H'} e1 e2 e3 e4 s=>?_⟩;have sn:=s.n;have hout:∀ k,(k < ev.st.hp.n∨ev.hp.n≤k)→γ'.loc k=γ.loc k:=fun k hk=>s.out k (by rw [e2,e4];exact hk);have shr:=s.hr;have su:=s.iK;rw [e3] at shr su;rw [e1] at su;have new:∀ k,ev.st.hp.n≤k→k < ev.hp.n→gD es st0 D' k=ev.hp.get k:=fun k h1 h2=>C.AD n (.inr ⟨by omega,by omega⟩)
 have old:∀ k,ev.hp.n≤k→gD es st0 D' k=gD es st0 D k:=fun k hk=>C.nc n fun ht=>by
  rcases ht with ht|ht
  ·have:=hwr k ht;omega
  ·omega
 have low:∀ k,γ.loc k ≠ none→k < ev.st.hp.n→gD es st0 D' k=ev.hp.get k:=fun k hl hk=>by
  by_cases hw:k ∈ ev.t.wr
  ·exact C.AD n (.inl hw)
  ·have hnt:¬ ev.turns k:=fun ht=>by
    rcases ht with ht|ht
    ·exact hw ht
    ·omega
   rw [C.nc n hnt,agree k hl hk,f6 k hw (by omega)]
 have apart:∀ {k k1 b o o1:Nat} {x x1:bu},ev.hp.n≤k→gD es st0 D k=some x→γ.loc k=some (b,o)→ev.st.hp.get k1=some x1→γ.loc k1=some (b,o1)→(x.own=true∧x1 ≠ .dead)∨(x1.own=true∧x ≠ .dead)→False:=by
  intro k k1 b o o1 x x1 hk hx hl hx1 hl1 hoo;have hlt:=there k1 x1 hx1;have hx1':gD es st0 D k1=some x1:=by rw [agree k1 (by rw [hl1];simp) hlt];exact hx1
  rcases hoo with ⟨h1,h2⟩|⟨h1,h2⟩
  ·exact I.hr.inj k k1 b o o1 x x1 hx h1 hx1' h2 (by omega) hl hl1
  ·exact I.hr.inj k1 k b o1 o x1 x hx1' h1 hx h2 (by omega) hl1 hl
 constructor
 ·refine ⟨fun k b o x hx hl=>?_,fun k k' b o o' x x' hx ho hx' hd hne hl hl'=>?_,shr.lt,shr.base,shr.gl⟩
  ·by_cases h1:k < ev.st.hp.n
   ·rw [low k (by rw [←hout k (.inl h1),hl];simp) h1] at hx;exact shr.gE k b o x hx hl
   ·by_cases h2:k < ev.hp.n
    ·rw [new k (by omega) h2] at hx;exact shr.gE k b o x hx hl
    ·rw [old k (by omega)] at hx;have hl0:=hl;rw [hout k (.inr (by omega))] at hl0;by_cases hd:x=.dead
     ·subst hd;trivial
     ·refine (I.hr.gE k b o x hx hl0).mono s.le hl0 (su.same b (I.hr.lt k b o hl0) fun k1 o1 x1 hx1 ho1 hl1=>?_);exact apart (by omega) hx hl0 hx1 hl1 (.inr ⟨ho1,hd⟩)
  ·have hcls:∀ q,q < ev.hp.n→∀ b o,γ'.loc q=some (b,o)→gD es st0 D' q=ev.hp.get q:=fun q hq b o hlq=>by
    by_cases h1:q < ev.st.hp.n
    ·exact low q (by rw [←hout q (.inl h1),hlq];simp) h1
    ·exact new q (by omega) hq
   by_cases hk:k < ev.hp.n
   ·by_cases hk':k' < ev.hp.n
    ·rw [hcls k hk b o hl] at hx;rw [hcls k' hk' b o' hl'] at hx';exact shr.inj k k' b o o' x x' hx ho hx' hd hne hl hl'
    ·have hl0':=hl';rw [hout k' (.inr (by omega))] at hl0';have hx0':=hx';rw [old k' (by omega)] at hx0';rw [hcls k hk b o hl] at hx;obtain ⟨k1,o1,x1,q1,q2,q3⟩:=su.uu k b o x hx ho hl (I.hr.lt k' b o' hl0');exact apart (by omega) hx0' hl0' q1 q3 (.inr ⟨q2,hd⟩)
   ·have hl0:=hl;rw [hout k (.inr (by omega))] at hl0;have hx0:=hx;rw [old k (by omega)] at hx0;by_cases hk':k' < ev.hp.n
    ·rw [hcls k' hk' b o' hl'] at hx';obtain ⟨k1,o1,x1,q1,q2,q3⟩:=su.live k' b o' x' hx' hd hl' (I.hr.lt k b o hl0);exact apart (by omega) hx0 hl0 q1 q3 (.inl ⟨ho,q2⟩)
    ·rw [hout k' (.inr (by omega))] at hl';rw [old k' (by omega)] at hx';exact I.hr.inj k k' b o o' x x' hx0 ho hx' hd hne hl0 hl'
 ·have up:∀ {k1 o1 b:Nat} {x1:bu},ev.st.hp.get k1=some x1→γ.loc k1=some (b,o1)→gD es st0 D k1=some x1:=fun {k1 o1 b x1} h1 h2=>by rw [agree k1 (by rw [h2];simp) (there k1 x1 h1)];exact h1
  refine ⟨su.os,su.tape,su.output,su.size,fun b hb hn=>su.same b hb fun k1 o1 x1 h1 h2 h3=>hn k1 o1 x1 (up h1 h3) h2 h3,fun k b o x hx ho hl hb=>?_,fun k b o x hx hd hl hb=>?_,su.s5⟩
  ·by_cases h:k < ev.hp.n
   ·have hx':ev.hp.get k=some x:=by
     by_cases h1:k < ev.st.hp.n
     ·rw [←low k (by rw [←hout k (.inl h1),hl];simp) h1];exact hx
     ·rw [←new k (by omega) h];exact hx
    obtain ⟨k1,o1,x1,q1,q2,q3⟩:=su.uu k b o x hx' ho hl hb;exact ⟨k1,o1,x1,up q1 q3,q2,q3⟩
   ·rw [old k (by omega)] at hx;rw [hout k (by omega)] at hl;exact ⟨k,o,x,hx,ho,hl⟩
  ·by_cases h:k < ev.hp.n
   ·have hx':ev.hp.get k=some x:=by
     by_cases h1:k < ev.st.hp.n
     ·rw [←low k (by rw [←hout k (.inl h1),hl];simp) h1];exact hx
     ·rw [←new k (by omega) h];exact hx
    obtain ⟨k1,o1,x1,q1,q2,q3⟩:=su.live k b o x hx' hd hl hb;exact ⟨k1,o1,x1,up q1 q3,q2,q3⟩
   ·rw [old k (by omega)] at hx;rw [hout k (by omega)] at hl;exact ⟨k,o,x,hx,hd,hl⟩
theorem vW (C:Ctx T rec m ops es st0 stF) (n:DV ops es D D' j ev) (hdet:Rn T rec ops j ev) (I:Inv es st0 stF γ0 w0 a0 D γ a w) (hok:fZ a.tmps.size ev.o=true) {rd:Option Nat} {next:Act→World→Prop} {Q:Exit→Act→World→Prop}
  (hnext:∀ γ' a' w',Inv es st0 stF γ0 w0 a0 D' γ' a' w'→next a' w'):wpOpIn (FW rd) 0 T.P ops Q j next a w:=by
 have ho:ops[j]?=some ev.o:=by rw [←Array.getElem?_toList];exact C.oper n.hj
 obtain ⟨f1,f2,f3,f4,f5,f6⟩:=C.facts n.hj;obtain ⟨hev,wf,b1,b2,_,_,_⟩:=C.at n.hj;have hdst:∀ d,ev.o.dst=some d→d < a.tmps.size:=mY hok;unfold wpOpIn;rw [ho];simp only
 rw [Au (γ:=γ) (fr:=ev.st.fr) ops ev.o fun g want q d h1 h2 h3=>by
  have:=I.tm d;rw [C.vU n (qw h1 h2 h3)] at this
  exact this]
 rcases hev with ⟨hg,hv,hhp,htc⟩|⟨hg,_⟩
 ·rw [hg];refine ⟨fun _ _=>trivial,hnext γ _ w ?_⟩
  have hnt:∀ k,¬ ev.turns k:=fun k ht=>by
   unfold Ev.turns at ht;rw [htc] at ht
   rcases ht with ht|ht
   ·cases ht
   ·simp only at ht;omega
  have hsame:gD es st0 D'=gD es st0 D:=funext fun k=>C.nc n (hnt k);exact ⟨I.le,I.out,I.ng C n (fun _ _=>rfl),by rw [hsame];exact I.hr,by rw [hsame];exact I.iK,fun t=>I.vj C n (Gm.Le.refl γ) (by rw [hv];exact VR.undef γ) hdst t,(jy _ _ _).trans I.sz,(put_defers _ _ _).trans I.df⟩
 ·have hd:=hdet hg;rw [hg];simp only [if_true];have heval:=I.eval C n hok;unfold aP at hd;split at hd
  ·
   rename_i f as hk;split at hd
   ·rename_i g hgo;obtain ⟨hnd,ha,vf',hv,hx⟩:=Aw hk heval hgo w;split at hd
    ·rename_i v hp hrec;have hd:=Option.some.inj hd;simp only [iQ,Prod.mk.injEq] at hd
     ·obtain ⟨d1,d2,d3⟩:=hd;obtain ⟨hr0,hstep⟩:=I.tu C n (by rw [←d3]) (by rw [←d3];exact fun k hk=>(Eb hk).2);have hnn:hp.n=ev.hp.n:=by rw [←d2]
      have hfr:fB γ ev.st.hp.n hp.n:=fun k h1 h2=>I.fresh j ev n.hj n.d k (by omega) (by omega);refine IG C.hS hnd (H:={ev.st.hp with lo:=ev.st.hp.n}) hgo hrec wf hr0 hfr (fun r hr=>by rw [List.mem_singleton.1 hr];exact qq6 _) hv ha hx fun v' w' hR=>?_;obtain ⟨v0,hp0,v1,γ',hm,he,hv',hs⟩:=hR;cases he;have hm':=List.mem_singleton.1 hm;cases hm';have hg1:ev.hp.get=hp.get:=by rw [←d2];rfl
      obtain ⟨r1,r2⟩:=hstep (H:={ev.st.hp with lo:=ev.st.hp.n}) (H':=hp) rfl rfl hg1.symm hnn hs;have hout:∀ k,(k < ev.st.hp.n∨ev.hp.n≤k)→γ'.loc k=γ.loc k:=fun k hk=>hs.out k (by rw [hnn];exact hk);refine hnext γ' _ w' ⟨I.le.trans hs.le,fun k hk=>?_,I.ng C n hout,r1,I.iK.trans r2,fun t=>I.vj C n hs.le (by rw [←d1];exact hv') hdst t,(jy _ _ _).trans I.sz,(put_defers _ _ _).trans I.df⟩;rw [hout k (by omega),I.out k hk]
    ·cases hd
   ·cases hd
  ·cases hd
  ·split at hd
   ·rename_i r wr v e htch hop;simp only [qq9,Prod.mk.injEq] at hd;obtain ⟨d1,d2,d3⟩:=hd;have hrd:ev.t.rd=r:=by rw [←d3]
    have hwrr:ev.t.wr=wr:=by rw [←d3]
    have hwlast:∀ k,k ∈ ev.t.wr→∀ i e',j < i→es[i]?=some e'→D i=true→¬ e'.turns k:=fun k hk i e' hji he hD=>C.Ci n (.inl hk) hji he hD
    have hop':gX T ev.st.hp.n ev.o.op (aF ev.st.fr) (gD es st0 D)=some (v,e):=by
     by_cases hsp:∃ i e',j < i∧es[i]?=some e'∧D i=true∧spare T ev e'=true∧∃ k ∈ ev.t.rd,e'.turns k
     ·
      obtain ⟨i0,e0,hji0,he0,hD0,hs0,k,hk,ht0⟩:=hsp;obtain ⟨r,s1,s2,s3,s4,_,_⟩:=mZ hs0;rw [s1] at hk;obtain rfl:=List.mem_singleton.1 hk
      rcases II k es D 0 (st0.hp.get k) with hn|⟨i,e',h1,h2,h3,h4,h5⟩
      ·exact absurd ht0 (hn i0 e0 he0 (by rw [Nat.zero_add];exact hD0))
      ·rw [Nat.zero_add] at h2;have hji:j < i:=by apply Nat.lt_of_not_le;intro hle;exact h5 i0 e0 (by omega) he0 (by rw [Nat.zero_add];exact hD0) ht0
       have hsi:spare T ev e'=true:=by
        rcases C.El j i _ _ hji n.hj h1 (kG h3 (.inl (by rw [s1];simp))) with ho|hsp
        ·exact absurd (n.behind ho h2) id
        ·exact hsp
       obtain ⟨_,_,_,_,_,_,hope⟩:=mZ hsi
       have hcong:gX T ev.st.hp.n ev.o.op (aF ev.st.fr) (gD es st0 D)=gX T ev.st.hp.n ev.o.op (aF ev.st.fr) e'.hp.get :=
        yO htch (fun q hq=>by
         rw [←hrd,s1] at hq;obtain rfl:=List.mem_singleton.1 hq
         exact h4) (fun q hq=>by rw [←hwrr,s2] at hq;cases hq)
       rw [hcong,hope,←d1]
       have he:e=.none:=by
        obtain ⟨q1,q2⟩:=oK htch;have hin:=(pR hop).2 q1;rw [q2,←hwrr,s2] at hin;have hab:ev.t.a=ev.t.b:=s3;rw [f2,f3,←d2,qt] at hab
        cases e with
        | none=>rfl
        | new b=>simp [bS.news] at hab
        | put q b=>cases hin
        | app q b=>cases hin
       rw [he]
     ·have hrl:∀ k,k ∈ ev.t.rd→∀ i e',j < i→es[i]?=some e'→D i=true→¬ e'.turns k:=fun k hk i e' hji he hD ht=>by
       rcases C.El j i _ _ hji n.hj he (kG ht (.inl hk)) with ho|hs
       ·exact n.behind ho hD
       ·exact hsp ⟨i,e',hji,he,hD,hs,k,hk,ht⟩
      rw [yO htch (fun k hk=>C.vV n (.inl (by rw [hrd];exact hk)) (hrl k (by rw [hrd];exact hk))) (fun k hk=>C.vV n (.inr (by rw [hwrr];exact hk)) (hwlast k (by rw [hwrr];exact hk)))];exact hop
    have hn:e.news=true→γ.loc ev.st.hp.n=none:=fun he=>I.fresh j ev n.hj n.d _ (by omega) (by
     rw [f3,←d2,qt,if_pos he];omega)
    obtain ⟨v',w',γ',h1,h2,h3,h4,h5,h6⟩:=B1 (n:=ev.st.hp.n) C.hT I.hr hn hop' heval
    have hget:e.on ev.st.hp.n (gD es st0 D)=gD es st0 D':=by
     funext k
     have hget0:ev.hp.get=e.on ev.st.hp.n ev.st.hp.get:=by rw [←d2,Hp.Ae]
     by_cases ht:ev.turns k
     ·rw [C.AD n ht,hget0]
      rcases ht with ht|ht
      ·have:=C.vV n (.inr ht) (hwlast k ht);cases e <;> simp only [bS.on,iK] <;> (repeat' split) <;> first|rfl|exact this
      ·have hk:k=ev.st.hp.n∧e.news=true:=by
        rw [f2,f3,←d2,qt] at ht;split at ht
        ·rename_i hne;exact ⟨by omega,hne⟩
        ·omega
       obtain ⟨rfl,hne⟩:=hk
       cases e with
       | none=>cases hne
       | put=>cases hne
       | new b=>simp [bS.on,iK]
       | app q b=>simp [bS.on,iK]
     ·rw [C.nc n ht];obtain ⟨q1,q2⟩:=oK htch;have hin:=(pR hop).2 q1;rw [q2] at hin;have hnk:e.news=true→k ≠ ev.st.hp.n:=fun hne hk=>ht (.inr ⟨by omega,by rw [f3,←d2,qt,if_pos hne];omega⟩)
      cases e with
      | none=>rfl
      | new b=>simp [bS.on,iK,hnk rfl]
      | put q b =>have:k ≠ q:=fun hk=>ht (.inl (by rw [hwrr,hk];exact hin));simp [bS.on,iK,this]
      | app q b =>have:k ≠ q:=fun hk=>ht (.inl (by rw [hwrr,hk];exact hin));simp [bS.on,iK,this,hnk rfl]
    rw [hget] at h4 h6
    have hout:∀ k,(k < ev.st.hp.n∨ev.hp.n≤k)→γ'.loc k=γ.loc k:=fun k hk=>h3 k fun hkn=>by
     cases hne:e.news with
     | false=>rfl
     | true =>rw [←d2,qt,if_pos hne] at hk;omega
    refine Oper.Ay (w':=w') (v':=v') (yQ hop) h1 (hnext γ' _ w' ⟨I.le.trans h2,fun k hk=>?_,I.ng C n hout,h4,I.iK.trans h6,fun t=>I.vj C n h2 (by rw [←d1];exact h5) hdst t,(jy _ _ _).trans I.sz,(put_defers _ _ _).trans I.df⟩);rw [hout k (by omega),I.out k hk]
   ·cases hd
end
end
def cnt (D:Nat→Bool):Nat→Nat
 | 0=>0
 | n+1=>cnt D n+(if D n=true then 0 else 1)
theorem AE {D D':Nat→Bool} {j:Nat} (hd:D j=false) (hd':D' j=true) (h:∀ m,m ≠ j→D' m=D m):∀ n,j < n→cnt D' n+1=cnt D n:=by
 have hle:∀ n,n≤j→cnt D' n=cnt D n:=by
  intro n
  induction n with
  | zero=>intro _;rfl
  | succ n ih=>intro hn;rw [cnt,cnt,ih (by omega),h n (by omega)]
 intro n
 induction n with
 | zero=>intro h;omega
 | succ n ih =>
  intro hn;rw [cnt,cnt];by_cases hjn:n=j
  ·subst hjn;rw [hle n (qq6 _),hd,hd'];simp
  ·rw [h n hjn];have:=ih (by omega);omega
theorem vX {D:Nat→Bool}:∀ n,cnt D n=0→∀ i,i < n→D i=true:=by
 intro n
 induction n with
 | zero=>intro _ i h;omega
 | succ n ih =>
  intro h i hi;rw [cnt] at h;by_cases hin:i=n
  ·subst hin
   cases hD:D i with
   | true=>rfl
   | false=>rw [hD] at h;simp at h
  ·exact ih (by omega) i (by omega)
theorem IJ {D:Nat→Bool}:∀ n,cnt D n≤n:=by
 intro n
 induction n with
 | zero=>exact qq6 _
 | succ n ih=>rw [cnt];split <;> omega
section
variable {T : bJ} {rec : qI → Option (List gC)} {m : Nat} {ops : Array Oper} {es : List Ev} {st0 stF : St} {γ0 : Gm} {w0 : World} {a0 : Act}
abbrev gQ (listed:Array Bool) (i:Nat):Bool:=listed.getD i true
theorem mq {listed:Array Bool} {i:Nat}:i ∈ Region.ready .any ops listed ↔ ∃ o,ops[i]?=some o∧gQ listed i=false∧∀ e ∈ o.after.toList,Region.binds .any e=true→listed.getD e.on false=true:=by
 unfold Region.ready;simp only [List.mem_filter,List.mem_range,qq7,Bool.not_eq_true'];constructor
 ·rintro ⟨h1,h2,h3⟩;have ho:ops[i]?=some ops[i]:=Array.getElem?_eq_getElem h1;rw [ho] at h3;simp only [Option.map_some,Option.getD_some] at h3;refine ⟨ops[i],ho,h2,fun e he hb=>?_⟩;rw [←Array.all_toList,List.all_eq_true] at h3;have:=h3 e he;simpa [hb] using this
 ·rintro ⟨o,ho,h2,h3⟩;refine ⟨(Array.getElem?_eq_some_iff.1 ho).1,h2,?_⟩;rw [ho];simp only [Option.map_some,Option.getD_some];rw [←Array.all_toList,List.all_eq_true];intro e he
  cases hb:Region.binds .any e with
  | false=>rfl
  | true=>simpa using h3 e he hb
theorem G7 {listed:Array Bool} {i:Nat} (h:listed.getD i false=true):gQ listed i=true:=by
 rw [gQ,Array.getD_eq_getD_getElem?];rw [Array.getD_eq_getD_getElem?] at h
 cases hi:listed[i]? with
 | none=>rw [hi] at h;cases h
 | some b=>rw [hi] at h;exact h
theorem vY {listed:Array Bool} (hsz:listed.size=ops.size) (hback:∀ (i:Nat) (o:Oper),ops[i]?=some o→∀ e ∈ o.after.toList,Region.binds .any e=true→e.on < i) (h:Region.ready .any ops listed=[]) :
  ∀ i,gQ listed i=true:=by
 have key:∀ n i,i < n→gQ listed i=true:=by
  intro n
  induction n with
  | zero=>intro i h;omega
  | succ n ih =>
   intro i hi;by_cases hin:i=n
   ·subst hin
    cases hl:gQ listed i with
    | true=>rfl
    | false =>
     exfalso;have hlt:i < listed.size:=by apply Nat.lt_of_not_le;intro hle;rw [gQ,Array.getD_eq_getD_getElem?,Array.getElem?_eq_none hle] at hl;cases hl
     have ho:ops[i]?=some ops[i]:=Array.getElem?_eq_getElem (hsz ▸ hlt)
     have:i ∈ Region.ready .any ops listed:=mq.2 ⟨_,ho,hl,fun e he hb=>by
      have hlt':=hback i _ ho e he hb;have:=ih e.on hlt';rw [gQ,Array.getD_eq_getD_getElem?] at this;rw [Array.getD_eq_getD_getElem?];have hs:listed[e.on]?=some (listed[e.on]'(by omega)):=Array.getElem?_eq_getElem _;rw [hs] at this ⊢
      exact this⟩
     rw [h] at this;cases this
   ·exact ih i (by omega)
 exact fun i=>key (i+1) i (by omega)
theorem lY {b:List Nat} {n c:Nat} (h:oD b n c=true):∀ j i,c≤j→i < j→j < n→ord b i j:=by
 intro j i hc hij hn;unfold oD at h;rw [List.all_eq_true] at h;have h1:=h j (List.mem_range.2 hn);rw [Bool.or_eq_true,List.all_eq_true] at h1
 rcases h1 with h1|h1
 ·have:=Nat.le_of_ble_eq_true h1;omega
 ·exact h1 i (List.mem_range.2 hij)
theorem Ck (ops:Array Oper):ez ops≤ops.size∧∀ j i,ez ops≤j→i < j→j < ops.size→ord (pM ops) i j:=by
 unfold ez;split
 ·cases hf:(List.range ops.toList.length).find? (D1 ops.toList (pM ops)) with
  | some c =>have h1:=List.mem_range.1 (List.mem_of_find?_eq_some hf);have h2:=List.find?_some hf;unfold D1 at h2;rw [qq7] at h2;have ht:=h2.2;rw [Array.length_toList] at h1 ht;exact ⟨Nat.le_of_lt h1,lY ht⟩
  | none =>simp only [Option.getD_none,Array.length_toList];exact ⟨qq6 _,fun j i h1 _ h2=>by omega⟩
 ·rw [Array.length_toList];exact ⟨qq6 _,fun j i h1 _ h2=>by omega⟩
theorem jQ {ops:Array Oper} {listed:Array Bool} {j:Nat} (hsz:listed.size=ops.size) (hlt:j < ops.size) (i:Nat):gQ (listed.setIfInBounds j true) i=if i=j then true else gQ listed i:=by
 rw [gQ,gQ,Array.getD_eq_getD_getElem?,Array.getD_eq_getD_getElem?,Array.getElem?_setIfInBounds];by_cases hij:i=j
 ·subst hij;simp [hsz,hlt]
 ·rw [if_neg (Ne.symm hij),if_neg hij]
theorem AF {ops:Array Oper} {listed:Array Bool} {j:Nat} {o:Oper} (hsz:listed.size=ops.size) (hlt:j < ops.size) (ho:ops[j]?=some o) (h3:∀ e ∈ o.after.toList,Region.binds .any e=true→listed.getD e.on false=true) (hcl:Cl ops.toList (gQ listed)):Cl ops.toList (gQ (listed.setIfInBounds j true)):=by
 intro i o' ho' hD e he hb
 have key:gQ listed e.on=true:=by
  by_cases hij:i=j
  ·subst hij;rw [Array.getElem?_toList,ho] at ho';cases ho';exact G7 (h3 e he hb)
  ·rw [jQ hsz hlt,if_neg hij] at hD;exact hcl i o' ho' hD e he hb
 rw [jQ hsz hlt];split
 ·rfl
 ·exact key
theorem Em (hT:cx T) (hK:bF rec) (hS:cI T rec m) {ops:Array Oper} {c:Nat} (htail:∀ j i,c≤j→i < j→j < ops.size→ord (pM ops) i j) {γ0:Gm} {H0:Hp} {w0:World} {sz:Nat} {rd:Option Nat} {N0 N:Nat} {Lb:List (Exit × St)} (hok:ops.toList.all (fZ sz)=true)
  (hback:∀ (i:Nat) (o:Oper),ops[i]?=some o→∀ e ∈ o.after.toList,Region.binds .any e=true→e.on < i) :
  ∀ (l:List Oper) (k:Nat),ops.toList.drop k=l→c≤k→∀ (st:St) (L:List St),aO T rec ops.toList l st=some L→∀ γ a w,Pre γ st a w rd N0→a.tmps.size=sz→Step γ0 H0 w0 γ st.hp w→fB γ st.hp.n N→(∀ s ∈ L,s.hp.n≤N)→(∀ s ∈ L,(Exit.normal,s) ∈ Lb) →
   ∀ (fuel:Nat) (listed:Array Bool),listed.size=ops.size→(∀ i,i < ops.size→(gQ listed i=true ↔ i < k))→Cl ops.toList (gQ listed)→cnt (gQ listed) ops.size≤fuel→wpAnyIn (FW rd) 0 T.P .any ops (jz γ0 H0 w0 sz rd N0 Lb) fuel listed a w:=by
 intro l
 induction l with
 | nil =>
  intro k hdk hck st L h γ a w hp hsz hs hf hN hb fuel listed hls hiff hcl hcnt;rw [dF] at h;cases h;have hk:ops.size≤k:=by have:=congrArg List.length hdk;rw [List.length_drop,Array.length_toList] at this;simp at this;omega
  have hq:jz γ0 H0 w0 sz rd N0 Lb .normal a w:=⟨_,hb st (by simp),γ,rfl,hp,hsz,hs⟩
  have hr:Region.ready .any ops listed=[]:=by
   cases hl:Region.ready .any ops listed with
   | nil=>rfl
   | cons i l =>
    have hi:i ∈ Region.ready .any ops listed:=by rw [hl];simp
    obtain ⟨o,ho,h2,_⟩:=mq.1 hi;have hlt:=(Array.getElem?_eq_some_iff.1 ho).1;rw [(hiff i hlt).2 (by omega)] at h2;cases h2
  cases fuel with
  | zero=>exact ⟨hr,hq⟩
  | succ fuel=>exact ⟨fun _=>hq,fun j hj=>by rw [hr] at hj;cases hj⟩
 | cons o l ih =>
  intro k hdk hck st L h γ a w hp hsz hs hf hN hb fuel listed hls hiff hcl hcnt;have hk:k < ops.size:=by have:=congrArg List.length hdk;rw [List.length_drop,Array.length_toList] at this;simp at this;omega
  have hok0:ops[k]?=some o:=by have:=congrArg (·[0]?) hdk;simp only [List.getElem?_drop,Nat.add_zero] at this;rw [←Array.getElem?_toList,this];rfl
  have hdl:ops.toList.drop (k+1)=l:=by rw [←List.drop_drop,hdk];rfl
  have hkn:gQ listed k=false:=by
   cases hx:gQ listed k with
   | false=>rfl
   | true=>exact absurd ((hiff k hk).1 hx) (Nat.lt_irrefl _)
  have hoo:fZ sz o=true:=List.all_eq_true.1 hok o (by
   have:ops.toList[k]?=some o:=by rw [Array.getElem?_toList];exact hok0
   exact List.mem_of_getElem? this)
  cases fuel with
  | zero =>exfalso;have:=vX _ (Nat.le_zero.1 hcnt) k hk;rw [hkn] at this;cases this
  | succ fuel =>
   refine ⟨fun hr=>?_,fun j hj=>?_⟩
   ·have:=vY hls hback hr k;rw [hkn] at this;cases this
   obtain ⟨o',ho',h2,h3⟩:=mq.1 hj;have hjlt:j < ops.size:=(Array.getElem?_eq_some_iff.1 ho').1
   have hjk:j=k:=by
    have h4:¬ j < k:=fun hlt=>by rw [(hiff j hjlt).2 hlt] at h2;cases h2
    by_cases hgt:k < j
    ·exfalso;have hcl':=AF hls hjlt ho' h3 hcl;have:=kF hcl' (htail j k (by omega) hgt hjlt) (by rw [jQ hls hjlt,if_pos rfl]);rw [jQ hls hjlt,if_neg (by omega),hkn] at this;cases this
    ·omega
   subst hjk;have hcl':=AF hls hjlt ho' h3 hcl;rw [hok0] at ho';cases ho'
   have hnext:∀ i,i < ops.size→(gQ (listed.setIfInBounds j true) i=true ↔ i < j+1):=by
    intro i hi;rw [jQ hls hjlt];by_cases hij:i=j
    ·subst hij;simp
    ·rw [if_neg hij,hiff i hi];omega
   have hcnt':cnt (gQ (listed.setIfInBounds j true)) ops.size≤fuel:=by have:=AE (D':=gQ (listed.setIfInBounds j true)) h2 (by rw [jQ hls hjlt,if_pos rfl]) (fun i hi=>by rw [jQ hls hjlt,if_neg hi]) ops.size hjlt;omega
   have go:∀ (st':St) (M:List St),aO T rec ops.toList l st'=some M→∀ γ' a' w',Pre γ' st' a' w' rd N0→a'.tmps.size=sz→Step γ0 H0 w0 γ' st'.hp w'→fB γ' st'.hp.n N→(∀ s ∈ M,s ∈ L) →
     wpAnyIn (FW rd) 0 T.P .any ops (jz γ0 H0 w0 sz rd N0 Lb) fuel (listed.setIfInBounds j true) a' w':=fun st' M e γ' a' w' p1 p2 p3 p4 p5 =>
    ih (j+1) hdl (by omega) st' M e γ' a' w' p1 p2 p3 p4 (fun s hs=>hN s (p5 s hs)) (fun s hs=>hb s (p5 s hs)) fuel _ (by simp [hls]) hnext hcl' hcnt'
   rw [bK] at h;have hdst:∀ d,o.dst=some d→d < a.tmps.size:=by rw [hsz];exact mY hoo
   unfold wpOpIn;rw [hok0];simp only;rw [IC hp.fr]
   cases hg:aY ops.toList st.fr o.guard with
   | false =>rw [hg] at h;simp only [cond_false] at h;refine ⟨fun _ _=>trivial,?_⟩;exact go _ L h γ _ w (hp.put (VR.undef γ) (Step.refl hp.hr) hdst (.refl _)) ((jy _ _ _).trans hsz) hs hf (fun s hs=>hs)
   | true =>
    rw [hg] at h;simp only [cond_true] at h;simp only [if_true]
    cases ha:dw T rec o.op st with
    | none=>rw [ha] at h;cases h
    | some A =>
     rw [ha] at h;simp only at h;have hsub:∀ p ∈ A,∃ M,aO T rec ops.toList l ⟨cD st.fr o.dst p.1,p.2,st.rd⟩=some M∧∀ s ∈ M,s ∈ L:=fun p hpm=>cH h p hpm;have hle:∀ p ∈ A,p.2.n≤N:=fun p hpm=>by obtain ⟨M,h1,h2⟩:=hsub p hpm;exact Good.le (fH hK _ _ _ _ h1).1 (fun s hsm=>hN s (h2 s hsm))
     have hops:o.op.operands.toList.all ur=true:=by have:=hoo;simp only [fZ,qq7] at this;exact this.1
     refine uz hT hS ha hp.fr hp.wf hp.hr hops hf hle fun v hp' v' γ' w' hm hv hst=>?_;obtain ⟨M,h1,h2⟩:=hsub _ hm;exact go _ M h1 γ' _ w' (hp.put hv hst hdst ((qN hK ha).2 _ hm)) ((jy _ _ _).trans hsz) (hs.trans hst) (hst.fresh hf) h2
theorem tv (C:Ctx T rec m ops es st0 stF) {rd:Option Nat} {Q:Exit→Act→World→Prop} (hok:∀ (j:Nat) (ev:Ev),es[j]?=some ev→fZ a0.tmps.size ev.o=true)
  (hback:∀ (i:Nat) (o:Oper),ops[i]?=some o→∀ e ∈ o.after.toList,Region.binds .any e=true→e.on < i)
  (_hlen:es.length≤ops.size) (htail:∀ j i,es.length≤j→i < es.length→j < ops.size→ord (pM ops) i j)
  (hQ:∀ fuel listed γ a w,listed.size=ops.size→cnt (gQ listed) ops.size≤fuel→Cl ops.toList (gQ listed)→(∀ i,i < ops.size→(gQ listed i=true ↔ i < es.length))→Inv es st0 stF γ0 w0 a0 (gQ listed) γ a w→wpAnyIn (FW rd) 0 T.P .any ops Q fuel listed a w) :
  ∀ (fuel:Nat) (listed:Array Bool) (γ:Gm) (a:Act) (w:World),listed.size=ops.size→cnt (gQ listed) ops.size≤fuel→Cl ops.toList (gQ listed)→(∀ i,es.length≤i→i < ops.size→gQ listed i=false)→Inv es st0 stF γ0 w0 a0 (gQ listed) γ a w→(∀ (j:Nat) (ev:Ev),es[j]?=some ev→gQ listed j=false→Rn T rec ops j ev) →
   wpAnyIn (FW rd) 0 T.P .any ops Q fuel listed a w:=by
 intro fuel
 induction fuel with
 | zero =>intro listed γ a w hsz hc hcl hun I _;refine hQ 0 listed γ a w hsz hc hcl (fun i hi=>⟨fun h=>?_,fun _=>vX _ (Nat.le_zero.1 hc) i hi⟩) I;apply Nat.lt_of_not_le;intro hle;rw [hun i hle hi] at h;cases h
 | succ fuel ih =>
  intro listed γ a w hsz hc hcl hun I hdet;by_cases hall:∀ i,i < es.length→gQ listed i=true
  ·refine hQ _ listed γ a w hsz hc hcl (fun i hi=>⟨fun h=>?_,hall i⟩) I;apply Nat.lt_of_not_le;intro hle;rw [hun i hle hi] at h;cases h
  obtain ⟨i0,hi0,hu0⟩:∃ i0,i0 < es.length∧gQ listed i0=false:=by
   apply Classical.byContradiction;intro hno;refine hall fun i hi=>?_
   cases hx:gQ listed i with
   | true=>rfl
   | false=>exact absurd ⟨i,hi,hx⟩ hno
  refine ⟨fun hr=>?_,fun j hj=>?_⟩
  ·have:=vY hsz hback hr i0;rw [hu0] at this;cases this
  obtain ⟨o,ho,h2,h3⟩:=mq.1 hj;have hlt:j < ops.size:=(Array.getElem?_eq_some_iff.1 ho).1;have hset:=fun i=>jQ (listed:=listed) hsz hlt i;have hj':gQ (listed.setIfInBounds j true) j=true:=by rw [hset,if_pos rfl]
  have hm:∀ i,i ≠ j→gQ (listed.setIfInBounds j true) i=gQ listed i:=fun i hi=>by rw [hset,if_neg hi]
  have hcl':=AF hsz hlt ho h3 hcl;have hje:j < es.length:=by apply Nat.lt_of_not_le;intro hle;have:=kF hcl' (htail j i0 hle hi0 hlt) hj';rw [hm i0 (by omega),hu0] at this;cases this
  have hev:es[j]?=some es[j]:=List.getElem?_eq_getElem hje;refine vW C ⟨hev,h2,hj',hm,hcl,hcl'⟩ (hdet j _ hev h2) I (by rw [I.sz];exact hok j _ hev) fun γ' a' w' I'=>?_;refine ih _ γ' a' w' (by simp [hsz]) ?_ hcl' (fun i h1 h4=>by rw [hm i (by omega)];exact hun i h1 h4) I' (fun j' ev' q1 q2=>hdet j' ev' q1 (by by_cases hjj:j'=j;rw [hjj,hj'] at q2;cases q2;rw [hm j' hjj] at q2;exact q2));have:=AE h2 hj' hm ops.size hlt;omega
theorem vZ {s t:Tc} (hs:s.wr.isEmpty=true) (ht:t.wr.isEmpty=true) (hs':s.a=s.b) (ht':t.a=t.b):conflict s t=false:=by have e1:s.wr=[]:=List.isEmpty_iff.1 hs;have e2:t.wr=[]:=List.isEmpty_iff.1 ht;simp [conflict,e1,e2,hs',ht',meets,within]
theorem qx {b:List Nat}:∀ (l:List Ev),(∀ e ∈ l,e.t.wr.isEmpty=true∧e.t.a=e.t.b)→bT T b l=true
 | [],_=>rfl
 | t :: l,h=>by unfold bT;rw [qx l fun e he=>h e (List.mem_cons_of_mem _ he),Bool.and_true,List.all_eq_true];intro s hs;have h1:=h s (List.mem_cons_of_mem _ hs);have h2:=h t List.mem_cons_self;rw [vZ h1.1 h2.1 h1.2 h2.2];rfl
theorem iD {ops:Array Oper} {acc:List Ev} (h:cA T ops acc=true):bT T (pM ops) acc=true:=by
 unfold cA at h
 cases hq:(acc.all fun e=>e.t.wr.isEmpty && Nat.beq e.t.a e.t.b) with
 | true =>refine qx _ fun e he=>?_;have:=List.all_eq_true.1 hq e he;simp only [qq7] at this;exact ⟨this.1,Nat.eq_of_beq_eq_true this.2⟩
 | false=>rw [hq] at h;exact h
theorem AG (hT:cx T) (hK:bF rec) (hS:cI T rec m) {ops:Array Oper} {es:List Ev} {st stF:St} (hch:dH T rec ops es 0 st stF) (hwf0:Wf st.hp) (hos:es.map (·.o)=ops.toList.take es.length) (hdr:bT T (pM ops) es.reverse=true)
  (hsep:∀ i j x y,i < j→ops.toList[i]?=some x→ops.toList[j]?=some y→x.apart ops y=true∨ord (pM ops) i j):Ctx T rec m ops es st stF:=by
 have hidx:∀ (i:Nat) (ev:Ev),es[i]?=some ev→ev.t.idx=i:=fun i ev h=>by have:=dH.get hK hch hwf0 i ev h;rw [Nat.zero_add] at this;exact (this.1.facts hK this.2.1).1
 refine ⟨hT,hK,hS,hch,hwf0,hos,hsep,fun i j ev ev' hij hi hj hcf=>?_⟩;have hlj:j < es.length:=(List.getElem?_eq_some_iff.1 hj).1;have rget:∀ (i:Nat) (ev:Ev),es[i]?=some ev→es.reverse[es.length - 1 - i]?=some ev:=fun i ev h=>by have hli:i < es.length:=(List.getElem?_eq_some_iff.1 h).1;rw [List.getElem?_reverse (by omega)];rw [show es.length - 1 - (es.length - 1 - i)=i by omega,h]
 have:=Cg hdr (es.length - 1 - j) (es.length - 1 - i) ev' ev (by omega) (rget j ev' hj) (rget i ev hi) hcf;rw [hidx i ev hi,hidx j ev' hj] at this;exact this
theorem dH.snoc {ops:Array Oper} {ev:Ev}:∀ {es:List Ev} {i:Nat} {st st':St},dH T rec ops es i st st'→ev.st=st'→Ek T rec ops (i+es.length) ev→dH T rec ops (es++[ev]) i st ev.after
 | [],i,st,st',h,h1,h2=>by have:st'=st:=h;exact ⟨h1.trans this,h2,rfl⟩
 | e :: es,i,st,st',h,h1,h2=>by obtain ⟨q1,q2,q3⟩:=h;exact ⟨q1,q2,dH.snoc q3 h1 (by rw [List.length_cons,show i+(es.length+1)=i+1+es.length by omega] at h2;exact h2)⟩
theorem v7 {β:Type} {f:Ev→β→β} {ev:Ev} {D:Nat→Bool}:∀ (es:List Ev) (i:Nat) (x:β),D (i+es.length)=false→oa f (es++[ev]) D i x=oa f es D i x
 | [],i,x,h=>by have h:D i=false:=h;show oa f [ev] D i x=oa f [] D i x;simp only [oa,h,Bool.false_eq_true,if_false]
 | e :: es,i,x,h=>by rw [List.length_cons,show i+(es.length+1)=i+1+es.length by omega] at h;have:=fun x=>v7 (f:=f) (ev:=ev) (D:=D) es (i+1) x h;rw [List.cons_append];simp only [oa,this]
abbrev ox (o:Oper) (st:St) (p:Value × Hp × Tc):Ev:=⟨o,st,p.1,p.2.1,p.2.2⟩
noncomputable abbrev MG (o:Oper) (st:St) (p:Value × Hp × Tc):St:=⟨cD st.fr o.dst p.1,p.2.1,st.rd⟩
open Classical in
theorem Pj (hK:bF rec) {ops:Array Oper} {o:Oper} {c:Nat} {st:St} {P:List (Value × Hp × Tc)} (hP:ju T rec ops o c st=some P) {p:Value × Hp × Tc} (hp:p ∈ P):Ek T rec ops c (ox o st p):=by
 unfold ju at hP
 cases hg:aY ops.toList st.fr o.guard with
 | false =>rw [hg] at hP;simp only [cond_false,qq9] at hP;subst hP;obtain rfl:=List.mem_singleton.1 hp;exact .inl ⟨hg,rfl,rfl,rfl⟩
 | true =>
 rw [hg] at hP;simp only [cond_true] at hP;refine .inr ⟨hg,?_⟩;unfold eM at hP;split at hP
 ·rename_i f as hk;split at hP
  ·rename_i g hgo;split at hP
   ·rename_i R hR;obtain ⟨r,hr,Pr,h1,h2⟩:=gZ hP p hp;obtain ⟨v,hp',rfl,rfl⟩:=ic h1;obtain rfl:=List.mem_singleton.1 h2;refine ⟨fun j=>if j=gJ {st.hp with lo:=st.hp.n} g then some [.ret v hp'] else none,fun j L hj=>?_,?_⟩
    ·dsimp only at hj;split at hj
     ·rename_i e;cases hj;subst e;exact ⟨by simp,fun b hb=>by rw [List.mem_singleton.1 hb];exact (hK _ _ hR).2 _ hr⟩
     ·cases hj
    ·show aP T _ o.op c st=_;unfold aP;simp only [hk,hgo,if_pos]
   ·cases hP
  ·cases hP
 ·cases hP
theorem yR {o:Oper} {c:Nat} {st:St} {P:List (Value × Hp × Tc)} (hP:eM T rec o.op c st=some P) {p:Value × Hp × Tc} (hp:p ∈ P):∃ wr,p.2.2=⟨c,[],wr,true,st.hp.n,p.2.1.n⟩∧∀ k ∈ wr,k < st.hp.n:=by
 unfold eM at hP;split at hP
 ·split at hP
  ·split at hP
   ·obtain ⟨r,hr,Pr,h1,h2⟩:=gZ hP p hp;obtain ⟨v,hp',rfl,rfl⟩:=ic h1;obtain rfl:=List.mem_singleton.1 h2;exact ⟨_,rfl,fun k hk=>(Eb hk).2⟩
   ·cases hP
  ·cases hP
 ·cases hP
theorem Pk {ops:Array Oper} {o:Oper} {c:Nat} {st:St} {P:List (Value × Hp × Tc)} (hP:ju T rec ops o c st=some P) {p:Value × Hp × Tc} (hp:p ∈ P):p.2.2.a=st.hp.n∧p.2.2.b=p.2.1.n:=by
 unfold ju at hP
 cases hg:aY ops.toList st.fr o.guard with
 | false =>rw [hg] at hP;simp only [cond_false,qq9] at hP;subst hP;obtain rfl:=List.mem_singleton.1 hp;exact ⟨rfl,rfl⟩
 | true =>rw [hg] at hP;obtain ⟨_,this,_⟩:=yR hP hp;rw [this];exact ⟨rfl,rfl⟩
theorem Inv.ext {es:List Ev} {st0 st stF:St} {ev:Ev} {D:Nat→Bool} {γ0 γ:Gm} {w0 w:World} {a0 a:Act} {N:Nat} (I:Inv es st0 st γ0 w0 a0 D γ a w) (hD:D es.length=false) (hst:st0.hp.n≤st.hp.n) (hle:st.hp.n≤stF.hp.n) (hN:stF.hp.n≤N) (ha:ev.t.a=st.hp.n) (hb:ev.t.b=stF.hp.n) (hf:fB γ0 st0.hp.n N) :
  Inv (es++[ev]) st0 stF γ0 w0 a0 D γ a w:=by
 have hg:gD (es++[ev]) st0 D=gD es st0 D:=funext fun k=>v7 es 0 _ (by rw [Nat.zero_add];exact hD);have hF:fD (es++[ev]) st0 D=fD es st0 D:=funext fun k=>v7 es 0 _ (by rw [Nat.zero_add];exact hD);refine ⟨I.le,fun k hk=>I.out k (by omega),fun j e hj hd k h1 h2=>?_,by rw [hg];exact I.hr,by rw [hg];exact I.iK,fun t=>by rw [hF];exact I.tm t,I.sz,I.df⟩;by_cases hlt:j < es.length
 ·rw [List.getElem?_append_left hlt] at hj;exact I.fresh j e hj hd k h1 h2
 ·rw [List.getElem?_append_right (by omega)] at hj;have:j - es.length=0:=by apply Classical.byContradiction;intro hne;rw [List.getElem?_eq_none (by simp;omega)] at hj;cases hj
  rw [this] at hj;cases hj;rw [I.out k (by omega)];exact hf k (by omega) (by omega)
theorem MH {ops:Array Oper} {es:List Ev} {st0 st:St} {o:Oper} {P:List (Value × Hp × Tc)} {γ0 γ:Gm} {w0 w:World} {a0 a:Act} {D D':Nat→Bool} {N:Nat} (hP:ju T rec ops o es.length st=some P) (hne:P ≠ [])
  (hC:∀ p ∈ P,Ctx T rec m ops (es++[ox o st p]) st0 (MG o st p)) (n:∀ p ∈ P,DV ops (es++[ox o st p]) D D' es.length (ox o st p)) (hst:st0.hp.n≤st.hp.n) (hle:∀ p ∈ P,st.hp.n≤p.2.1.n) (hN:∀ p ∈ P,p.2.1.n≤N) (hf:fB γ0 st0.hp.n N)
  (I:Inv es st0 st γ0 w0 a0 D γ a w) (hok:fZ a.tmps.size o=true) {rd:Option Nat} {next:Act→World→Prop} {Q:Exit→Act→World→Prop}
  (hnext:∀ p ∈ P,∀ γ' a' w',Inv (es++[ox o st p]) st0 (MG o st p) γ0 w0 a0 D' γ' a' w'→next a' w'):wpOpIn (FW rd) 0 T.P ops Q es.length next a w:=by
 have hIp:∀ p ∈ P,Inv (es++[ox o st p]) st0 (MG o st p) γ0 w0 a0 D γ a w:=fun p hp=>by obtain ⟨hFa,hFb⟩:=Pk hP hp;exact I.ext (N:=N) (n p hp).d hst (hle p hp) (hN p hp) hFa hFb hf
 obtain ⟨p0,hp0⟩:=List.exists_mem_of_ne_nil P hne;have C0:=hC p0 hp0;have n0:=n p0 hp0;have I0:=hIp p0 hp0;have ho:ops[es.length]?=some o:=by rw [←Array.getElem?_toList];exact C0.oper n0.hj
 have hdst:∀ d,o.dst=some d→d < a.tmps.size:=mY hok;obtain ⟨hev,wf,b1,b2,_,_,_⟩:=C0.at n0.hj
 cases hg:aY ops.toList st.fr o.guard with
 | false=>exact vW C0 n0 (fun h=>absurd (hg.symm.trans h) (by decide)) I0 hok fun γ' a' w' I'=>hnext p0 hp0 γ' a' w' I'
 | true =>
 have hP:eM T rec o.op es.length st=some P:=by unfold ju at hP;rw [hg] at hP;exact hP
 unfold wpOpIn;rw [ho];simp only
 rw [Au (γ:=γ) (fr:=st.fr) ops o fun g want q d h1 h2 h3=>by
  have:=I0.tm d;rw [C0.vU n0 (qw h1 h2 h3)] at this
  exact this]
 rw [hg];simp only [if_true];have heval:=I0.eval C0 n0 hok;have hP':=hP;unfold eM at hP';split at hP'
 ·rename_i f as hk;split at hP'
  ·rename_i g hgo;split at hP'
   ·rename_i R hR;obtain ⟨hnd,ha,vf',hv,hx⟩:=Aw hk heval hgo w;obtain ⟨wr0,hF0,hw0⟩:=yR hP hp0;obtain ⟨hr0,_⟩:=I0.tu C0 n0 (by show p0.2.2.call=true;rw [hF0]) (by show ∀ k ∈ p0.2.2.wr,k < st.hp.n;rw [hF0];exact hw0);have hfr:fB γ st.hp.n N:=fun k h1 h2=>by rw [I.out k (.inr h1)];exact hf k (by omega) h2
    have hin:∀ v hp,gC.ret v hp ∈ R→iQ es.length st v hp ∈ P:=fun v hp hr=>by obtain ⟨Ma,q1,q2⟩:=cH hP' _ hr;obtain ⟨v',hp',e,rfl⟩:=ic q1;cases e;exact q2 _ (by simp)
    have hRN:∀ r ∈ R,r.hp.n≤N:=fun r hr=>by obtain ⟨Ma,q1,q2⟩:=cH hP' _ hr;obtain ⟨v',hp',rfl,rfl⟩:=ic q1;exact hN _ (hin v' hp' hr)
    refine IG C0.hS hnd (H:={st.hp with lo:=st.hp.n}) (N:=N) hgo hR wf hr0 hfr hRN hv ha hx fun v' w' hRet=>?_;obtain ⟨v0,hp1,v1,γ',hm,he,hv',hs⟩:=hRet;cases he;have hp:=hin v0 hp1 hm;have I1:=hIp _ hp;obtain ⟨_,hstep⟩:=I1.tu (hC _ hp) (n _ hp) rfl (fun k hk=>(Eb hk).2);obtain ⟨r1,r2⟩:=hstep (H:={st.hp with lo:=st.hp.n}) (H':=hp1) rfl rfl rfl rfl hs;have hout:∀ k,(k < st.hp.n∨hp1.n≤k)→γ'.loc k=γ.loc k:=fun k hk=>hs.out k hk;refine hnext _ hp γ' _ w' ⟨I1.le.trans hs.le,fun k hk=>?_,I1.ng (hC _ hp) (n _ hp) hout,r1,I1.iK.trans r2,fun t=>I1.vj (hC _ hp) (n _ hp) hs.le hv' hdst t,(jy _ _ _).trans I1.sz,(put_defers _ _ _).trans I1.df⟩
    rw [hout k (by
     have:(MG o st (iQ es.length st v0 hp1)).hp.n=hp1.n:=rfl
     omega),I1.out k hk]
   ·cases hP'
  ·cases hP'
 ·cases hP'
theorem IK {ops:Array Oper} {es:List Ev} {st0 st:St} {o:Oper} {P:List (Value × Hp × Tc)} {γ0:Gm} {w0:World} {a0:Act} {N:Nat} (hP:ju T rec ops o es.length st=some P) (hne:P ≠ [])
  (C:Ctx T rec m ops es st0 st) (hC:∀ p ∈ P,Ctx T rec m ops (es++[ox o st p]) st0 (MG o st p)) (hst:st0.hp.n≤st.hp.n) (hle:∀ p ∈ P,st.hp.n≤p.2.1.n) (hN:∀ p ∈ P,p.2.1.n≤N) (hf:fB γ0 st0.hp.n N)
  (hdet:∀ (j:Nat) (ev:Ev),es[j]?=some ev→Rn T rec ops j ev) {rd:Option Nat} {Q:Exit→Act→World→Prop} (hok:∀ (j:Nat) (o:Oper),ops.toList[j]?=some o→fZ a0.tmps.size o=true)
  (hback:∀ (i:Nat) (o:Oper),ops[i]?=some o→∀ e ∈ o.after.toList,Region.binds .any e=true→e.on < i) (ho:ops.toList[es.length]?=some o)
  (htail:∀ j i,es.length+1≤j→i < es.length+1→j < ops.size→ord (pM ops) i j)
  (hQ:∀ p ∈ P,∀ fuel listed γ a w,listed.size=ops.size→cnt (gQ listed) ops.size≤fuel→Cl ops.toList (gQ listed)→(∀ i,i < ops.size→(gQ listed i=true ↔ i < es.length+1))→Inv (es++[ox o st p]) st0 (MG o st p) γ0 w0 a0 (gQ listed) γ a w→wpAnyIn (FW rd) 0 T.P .any ops Q fuel listed a w) :
  ∀ (fuel:Nat) (listed:Array Bool) (γ:Gm) (a:Act) (w:World),listed.size=ops.size→cnt (gQ listed) ops.size≤fuel→Cl ops.toList (gQ listed)→(∀ i,es.length≤i→i < ops.size→gQ listed i=false)→Inv es st0 st γ0 w0 a0 (gQ listed) γ a w →
   wpAnyIn (FW rd) 0 T.P .any ops Q fuel listed a w:=by
 have hclt:es.length < ops.size:=by have:=(List.getElem?_eq_some_iff.1 ho).1;simpa using this
 intro fuel
 induction fuel with
 | zero =>intro listed γ a w hsz hc hcl hun I;have h1:=vX _ (Nat.le_zero.1 hc) es.length hclt;rw [hun _ (qq6 _) hclt] at h1;cases h1
 | succ fuel ih =>
  intro listed γ a w hsz hc hcl hun I;have hcu:=hun _ (qq6 _) hclt;refine ⟨fun hr=>?_,fun j hj=>?_⟩
  ·have:=vY hsz hback hr es.length;rw [hcu] at this;cases this
  obtain ⟨oj,hoj,h2,h3⟩:=mq.1 hj;have hlt:j < ops.size:=(Array.getElem?_eq_some_iff.1 hoj).1;have hset:=fun i=>jQ (listed:=listed) hsz hlt i;have hj':gQ (listed.setIfInBounds j true) j=true:=by rw [hset,if_pos rfl]
  have hm:∀ i,i ≠ j→gQ (listed.setIfInBounds j true) i=gQ listed i:=fun i hi=>by rw [hset,if_neg hi]
  have hcl':=AF hsz hlt hoj h3 hcl;have hcs:=AE h2 hj' hm ops.size hlt;have hjc:j≤es.length:=by apply Nat.le_of_not_lt;intro hgt;have:=kF hcl' (htail j es.length hgt (Nat.lt_succ_self _) hlt) hj';rw [hm _ (by omega),hcu] at this;cases this
  by_cases hje:j < es.length
  ·have hev:es[j]?=some es[j]:=List.getElem?_eq_getElem hje;refine vW C ⟨hev,h2,hj',hm,hcl,hcl'⟩ (hdet j _ hev) I (by rw [I.sz];exact hok j _ (C.oper hev)) fun γ' a' w' I'=>?_;exact ih _ γ' a' w' (by simp [hsz]) (by omega) hcl' (fun i h1 h4=>by rw [hm i (by omega)];exact hun i h1 h4) I'
  ·have hje:j=es.length:=by omega
   subst hje;have hat:∀ p,(es++[ox o st p])[es.length]?=some (ox o st p):=fun p=>by rw [List.getElem?_append_right (qq6 _),Nat.sub_self];rfl
   refine MH (N:=N) hP hne hC (fun p _=>⟨hat p,h2,hj',hm,hcl,hcl'⟩) hst hle hN hf I (by rw [I.sz];exact hok _ _ ho) fun p hp γ' a' w' I'=>?_;have hlen:(es++[ox o st p]).length=es.length+1:=by simp
   refine tv (hC p hp) (fun j ev hev=>?_) hback (by rw [hlen];exact hclt) (by rw [hlen];exact htail) (by rw [hlen];exact hQ p hp) _ _ γ' a' w' (by simp [hsz]) (by omega) hcl' (fun i h1 h4=>?_) I' (fun j ev hev hd=>?_)
   ·exact hok j _ ((hC p hp).oper hev)
   ·rw [hlen] at h1;rw [hm i (by omega)];exact hun i (by omega) h4
   ·by_cases hjl:j < es.length
    ·rw [List.getElem?_append_left hjl] at hev;exact hdet j ev hev
    ·have hjl2:j < (es++[ox o st p]).length:=(List.getElem?_eq_some_iff.1 hev).1;rw [hlen] at hjl2;have:j=es.length:=by omega
     rw [this,hj'] at hd;cases hd
theorem ya {b:List Nat} {n c:Nat} (h:rF b n c=true):∀ j i,c≤j→i < c→j < n→ord b i j:=by
 intro j i hc hij hn;unfold rF at h;rw [List.all_eq_true] at h;have h1:=h j (List.mem_range.2 hn);rw [Bool.or_eq_true,List.all_eq_true] at h1
 rcases h1 with h1|h1
 ·have:=Nat.le_of_ble_eq_true h1;omega
 ·exact h1 i (List.mem_range.2 hij)
theorem yb {s t:Tc} (hr:t.rd=[]) (hw:t.wr=[]) (hc:t.call=false) (hab:t.a=t.b):conflict s t=false:=by simp [conflict,hr,hw,hc,hab,meets,within]
def Idle (H:Hp) (e:Ev):Prop:=e.st.hp=H∧e.hp=H∧e.t.rd=[]∧e.t.wr=[]∧e.t.call=false∧e.t.a=H.n∧e.t.b=H.n
theorem rU {b:List Nat} {H:Hp} {l2:List Ev} (h2:bT T b l2=true):∀ (l:List Ev),(∀ e ∈ l,Idle H e)→bT T b (l++l2)=true
 | [],_=>h2
 | t :: l,h=>by rw [List.cons_append];unfold bT;rw [rU h2 l fun e he=>h e (List.mem_cons_of_mem _ he),Bool.and_true,List.all_eq_true];intro s _;obtain ⟨_,_,h1,h2,h3,h4,h5⟩:=h t List.mem_cons_self;rw [yb h1 h2 h3 (h4.trans h5.symm)];rfl
theorem IL {o:Oper} (h:sY o=true) {st:St} {R:List (Value × Hp)} (i:Nat) (hR:dw T rec o.op st=some R):o.guard=none∧∃ v,R=[(v,st.hp)]∧aP T rec o.op i st=some (v,st.hp,⟨i,[],[],false,st.hp.n,st.hp.n⟩):=by
 unfold sY at h;split at h
 ·rename_i x e1 e2;rw [e1] at hR ⊢;cases hR;exact ⟨e2,_,rfl,rfl⟩
 ·rename_i x e1 e2;rw [e1] at hR ⊢;cases hR;exact ⟨e2,_,rfl,rfl⟩
 ·rename_i x k e1 e2;rw [e1] at hR ⊢;refine ⟨e2,?_⟩
  cases hx:fX (aF st.fr x) k with
  | none =>unfold dw at hR;simp only [cP,gX,hx] at hR;cases hR
  | some p =>
   obtain ⟨v,e⟩:=p
   have he:e=.none:=by
    unfold fX at hx;split at hx
    ·rename_i vs hv
     cases hq:vs.toList[k]? with
     | none=>rw [hq] at hx;cases hx
     | some u=>rw [hq] at hx;cases hx;rfl
    ·cases hx
   subst he;unfold dw at hR;unfold aP;simp only [cP,iA,gX,hx] at hR ⊢;cases hR;exact ⟨_,rfl,rfl⟩
 ·cases h
theorem yS (hK:bF rec) {ops:Array Oper}:∀ (l:List Oper) (i:Nat) (st:St) (L:List St),l.all sY=true→aO T rec ops.toList l st=some L →
  ∃ es st',L=[st']∧dH T rec ops es i st st'∧es.map (·.o)=l∧st'.hp=st.hp∧(∀ e ∈ es,Idle st.hp e)∧∀ j ev,es[j]?=some ev→Rn T rec ops (i+j) ev
 | [],i,st,L,_,h=>by cases h;exact ⟨[],st,rfl,rfl,rfl,rfl,(fun e he=>by cases he),fun j ev hj=>by cases hj⟩
 | o :: l,i,st,L,hq,h=>by
  rw [List.all_cons,qq7] at hq;rw [bK] at h
  cases ha:dw T rec o.op st with
  | none =>
   exfalso
   have hg:o.guard=none:=by
    have:=hq.1;unfold sY at this;split at this
    ·assumption
    ·assumption
    ·assumption
    ·cases this
   rw [hg,ha] at h;cases h
  | some R =>
   obtain ⟨hg,v,rfl,hd⟩:=IL hq.1 i ha;have hgt:aY ops.toList st.fr o.guard=true:=by rw [hg];rfl
   rw [hgt,ha] at h;simp only [cond_true] at h;rw [cG] at h;obtain ⟨es,st',h1,h2,h3,h4,h5,h6⟩:=yS hK l (i+1) _ L hq.2 h;refine ⟨⟨o,st,v,st.hp,⟨i,[],[],false,st.hp.n,st.hp.n⟩⟩ :: es,st',h1,⟨rfl,.inr ⟨hgt,rec,hK,hd⟩,h2⟩,by simp [h3],h4,fun e he=>?_,fun j ev hj=>?_⟩
   ·rcases List.mem_cons.1 he with rfl|he
    ·exact ⟨rfl,rfl,rfl,rfl,rfl,rfl,rfl⟩
    ·exact h5 e he
   ·cases j with
    | zero=>cases hj;exact fun _=>hd
    | succ j=>rw [show i+(j+1)=i+1+j by omega];exact h6 j ev hj
theorem dH.append {ops:Array Oper} {es2:List Ev} {st'':St}:∀ {es:List Ev} {i:Nat} {st st':St},dH T rec ops es i st st'→dH T rec ops es2 (i+es.length) st' st''→dH T rec ops (es++es2) i st st''
 | [],i,st,st',h,h2=>by have h:st'=st:=h;subst h;exact h2
 | e :: es,i,st,st',h,h2=>by obtain ⟨q1,q2,q3⟩:=h;exact ⟨q1,q2,dH.append q3 (by rw [List.length_cons,show i+(es.length+1)=i+1+es.length by omega] at h2;exact h2)⟩
theorem Inv.exts {ops:Array Oper} {st0 st2:St} {H:Hp} {D:Nat→Bool} {γ0 γ:Gm} {w0 w:World} {a0 a:Act} {N:Nat} (h0:st0.hp.n≤H.n) (hN:H.n≤N) (hf:fB γ0 st0.hp.n N):∀ {es2 es:List Ev} {st:St},Inv es st0 st γ0 w0 a0 D γ a w→dH T rec ops es2 es.length st st2→(∀ e ∈ es2,Idle H e)→st.hp=H→(∀ i,es.length≤i→i < es.length+es2.length→D i=false) →
  Inv (es++es2) st0 st2 γ0 w0 a0 D γ a w
 | [],es,st,I,hch,_,_,_=>by have hch:st2=st:=hch;subst hch;rw [List.append_nil];exact I
 | ev :: es2,es,st,I,hch,hid,hst,hD=>by
  obtain ⟨_,_,q3⟩:=hch;obtain ⟨_,e2,_,_,_,ea,eb⟩:=hid ev List.mem_cons_self;have ha:ev.after.hp=H:=e2;have I1:=I.ext (ev:=ev) (stF:=ev.after) (N:=N) (hD _ (qq6 _) (by simp)) (by rw [hst];exact h0) (by rw [hst,ha];exact qq6 _) (by rw [ha];exact hN) (by rw [hst];exact ea) (by rw [ha];exact eb) hf;have:=Inv.exts h0 hN hf (es2:=es2) I1 (by rw [List.length_append,List.length_singleton];exact q3) (fun e he=>hid e (List.mem_cons_of_mem _ he)) ha (fun i h1 h2=>hD i (by simp at h1;omega) (by simp at h2 ⊢;omega))
  rwa [List.append_assoc] at this
theorem G8 {ops:Array Oper} {c:Nat} (h:qJ ops=some c):(match ops.toList[c]? with|some o=>Ik o|none=>false)=true∧(oD (pM ops) ops.toList.length (c+1)=true∨rF (pM ops) ops.toList.length (c+1)=true∧(ops.toList.drop (c+1)).all sY=true):=by
 unfold qJ at h;split at h
 ·cases h
 ·have:=List.find?_some h;unfold Pg at this;rw [qq7,qq7,Bool.or_eq_true,qq7] at this;exact this.1
theorem En (hT:cx T) (hm:T.P.follows .mixedOrders=true) (hK:bF rec) (hS:cI T rec m):j6 T rec:=by
 intro id ops st L hx γ w a rd N0 N hp hc hf hN;have hwf0:Wf st.hp:=hp.wf;simp only [codeOk,Bool.not_true,Bool.false_or,qq7,List.all_eq_true] at hc;obtain ⟨hdc,hopk⟩:=hc;simp only [BM,qq7,List.all_eq_true] at hdc;obtain ⟨hsep,hedge⟩:=hdc;have hzip:∀ (i:Nat) (o:Oper),ops.toList[i]?=some o→ops.toList.zipIdx[i]?=some (o,i):=fun i o h=>by rw [List.getElem?_zipIdx,h];simp
 have hsep':∀ i j x y,i < j→ops.toList[i]?=some x→ops.toList[j]?=some y→x.apart ops y=true∨ord (pM ops) i j:=fun i j x y hij hi hj=>G6 hsep i j _ _ hij (hzip i x hi) (hzip j y hj);have hback:∀ (i:Nat) (o:Oper),ops[i]?=some o→∀ e ∈ o.after.toList,Region.binds .any e=true→e.on < i:=fun i o ho e he hb=>by have:=hedge (o,i) (List.mem_of_getElem? (hzip i o (by rw [Array.getElem?_toList];exact ho))) e he;simpa [hb] using this
 have hokl:∀ (j:Nat) (o:Oper),ops.toList[j]?=some o→fZ a.tmps.size o=true:=fun j o h=>by have:=hopk o (List.mem_of_getElem? h);rw [fZ,qq7,List.all_eq_true];exact this
 have hall:ops.toList.all (fZ a.tmps.size)=true:=by rw [List.all_eq_true];intro o ho;have:=hopk o ho;rw [fZ,qq7,List.all_eq_true];exact this
 have hnone:∀ i,i < ops.size→gQ (Array.replicate ops.size false) i=false:=fun i hi=>by simp [gQ,Array.getD_eq_getD_getElem?,hi]
 have hstart:∀ {es:List Ev} {stF:St},Ctx T rec m ops es st stF→es.length≤ops.size→stF.hp.n≤N→Inv es st stF γ w a (gQ (Array.replicate ops.size false)) γ a {w with drawn:=w.drawn+1}:=fun {es stF} C hle hNF=>by
  have hsel:∀ {β:Type} (f:Ev→β→β) (x:β),oa f es (gQ (Array.replicate ops.size false)) 0 x=x:=fun {β} f x=>tq es _ 0 x fun j ev hj hD=>by rw [Nat.zero_add,hnone j (by have:=(List.getElem?_eq_some_iff.1 hj).1;omega)] at hD;cases hD
  have hg:gD es st (gQ (Array.replicate ops.size false))=st.hp.get:=funext fun k=>hsel _ _;refine ⟨Gm.Le.refl γ,fun _ _=>rfl,fun j ev hj _ k h1 h2=>?_,by rw [hg];exact hp.hr.same rfl,by rw [hg];exact jZ.heap rfl rfl rfl rfl,fun t=>?_,rfl,rfl⟩
  ·obtain ⟨_,f2,f3,f4,_⟩:=C.facts hj;obtain ⟨_,_,b1,b2,_⟩:=C.at hj;exact hf k (by omega) (by omega)
  ·have e:fD es st (gQ (Array.replicate ops.size false)) t=st.fr.get t:=hsel _ _;rw [e];exact hp.fr t
 have hgo:∀ {es:List Ev} {stF:St} {Lp:List St},dH T rec ops es 0 st stF→ej st.hp stF.hp→es.length≤ops.size→(∀ j i,es.length≤j→i < j→j < ops.size→ord (pM ops) i j)→aO T rec ops.toList (ops.toList.drop es.length) stF=some Lp→(∀ s ∈ Lp,s ∈ L) →
   ∀ fuel listed γ' a' w',listed.size=ops.size→cnt (gQ listed) ops.size≤fuel→Cl ops.toList (gQ listed)→(∀ i,i < ops.size→(gQ listed i=true ↔ i < es.length))→Inv es st stF γ w a (gQ listed) γ' a' w'→wpAnyIn (FW rd) 0 T.P .any ops (jz γ st.hp w a.tmps.size rd N0 (L.map fun s=>(.normal,s))) fuel listed a' w' :=
  fun {es stF Lp} hch hkp hle ht2 hx2 hsub fuel listed γ' a' w' hls hcn hcl hiff I=>by
  obtain ⟨g1,g2,g3,g4,g5⟩:=dH.last hK hch hwf0 (gQ listed) fun j hj=>by rw [Nat.zero_add];exact (hiff j (by omega)).2 hj
  have hget:gD es st (gQ listed)=stF.hp.get:=funext fun k=>(g1 k).symm;have hr:=I.hr;have hu:=I.iK;rw [hget] at hr hu;have hstep:Step γ st.hp w γ' stF.hp w':=⟨g4,I.le,I.out,hr,hu⟩
  have hpre:Pre γ' stF a' w' rd N0:=⟨fun t=>by
    have:=I.tm t;have e:fD es st (gQ listed) t=stF.fr.get t:=(g2 t).symm;rw [e] at this
    exact this,hr,g3.trans hp.rd,by rw [I.df];exact hp.df.step hstep,g5,fun b hb=>let ⟨l,q1,q2⟩:=hp.lp b hb;⟨l,hstep.le.loc _ _ q1,hkp.loop hp.wf l q2⟩⟩
  exact Em hT hK hS (c:=es.length) ht2 (sz:=a.tmps.size) hall hback (ops.toList.drop es.length) es.length rfl (qq6 _) stF Lp hx2 γ' a' w' hpre I.sz hstep (hstep.fresh hf) (fun s hs=>hN s (hsub s hs)) (fun s hs=>List.mem_map.2 ⟨s,hsub s hs,rfl⟩) fuel listed hls hiff hcl hcn
 have hempty:Cl ops.toList (gQ (Array.replicate ops.size false)):=fun j o ho hD=>by exfalso;rw [hnone j (by have:=(List.getElem?_eq_some_iff.1 ho).1;simpa using this)] at hD;cases hD
 refine wpIn_region_any hm ?_
 rcases lW hx with ⟨c,hc,hx⟩|⟨_,M,hx,hx2⟩
 ·
  obtain ⟨es,stM,hfin,hch,hos,hkM,hdet⟩:=u9 hK ops _ _ 0 st [] L hx;rw [List.append_nil] at hfin;obtain ⟨o,P,ho,hP,hdr,hL⟩:=qO hfin;have hclt:c < ops.toList.length:=(List.getElem?_eq_some_iff.1 ho).1;have hlen:es.length=c:=by rw [←List.length_map (f:=(·.o)),hos,List.length_take];omega
  subst hlen;have hsz:ops.toList.length=ops.size:=Array.length_toList ..;obtain ⟨_,htf⟩:=G8 hc;have hgood:=vO hK hP;have hchP:∀ p ∈ P,dH T rec ops (es++[ox o stM p]) 0 st (MG o stM p):=fun p hp=>hch.snoc rfl (by rw [Nat.zero_add];exact Pj hK hP hp);have hosP:∀ p,(es++[ox o stM p]).map (·.o)=ops.toList.take (es++[ox o stM p]).length:=fun p=>by rw [List.map_append,hos,List.length_append,List.length_singleton,List.take_add_one,ho];rfl
  have hCP:∀ p ∈ P,Ctx T rec m ops (es++[ox o stM p]) st (MG o stM p):=fun p hp =>AG hT hK hS (hchP p hp) hwf0 (hosP p) (by rw [List.reverse_append];exact iD (hdr p hp)) hsep';obtain ⟨p0,hp0⟩:=List.exists_mem_of_ne_nil P hgood.1
  have hCM:Ctx T rec m ops es st stM:=AG hT hK hS hch hwf0 hos (by
   have:=iD (hdr p0 hp0);unfold bT at this;rw [qq7] at this
   exact this.2) hsep'
  have hkeepP:∀ p ∈ P,ej stM.hp p.2.1:=fun p hp=>hgood.2 p hp;have hlast:=dH.last hK hch hwf0 (fun _=>true) fun _ _=>rfl;have hstM:st.hp.n≤stM.hp.n:=hlast.2.2.2.1;have hsubL:∀ p ∈ P,∃ Lp,aO T rec ops.toList (ops.toList.drop (es.length+1)) (MG o stM p)=some Lp∧∀ s ∈ Lp,s ∈ L:=fun p hp=>cH hL p hp;have hNP:∀ p ∈ P,p.2.1.n≤N:=fun p hp=>by obtain ⟨Lp,q1,q2⟩:=hsubL p hp;have:=(fH hK _ _ _ _ q1).1;exact Good.le this fun s hs=>hN s (q2 s hs)
  have htail:∀ j i,es.length+1≤j→i < es.length+1→j < ops.size→ord (pM ops) i j:=fun j i h1 h2 h3=>by
   rcases htf with htf|⟨htf,_⟩
   ·exact lY htf j i h1 (by omega) (by rw [hsz];exact h3)
   ·exact ya htf j i h1 h2 (by rw [hsz];exact h3)
  refine IK (N:=N) hP hgood.1 hCM hCP hstM (fun p hp=>(hkeepP p hp).n) hNP hf (fun j ev h=>by have:=hdet j ev h;rwa [Nat.zero_add] at this) hokl hback ho htail (fun p hp=>?_) ops.size _ γ a _ (by simp) (IJ _) hempty (fun i _ h2=>hnone i h2) (hstart hCM (by omega) (Nat.le_trans (hkeepP p0 hp0).n (hNP p0 hp0)));obtain ⟨Lp,q1,q2⟩:=hsubL p hp;have hl1:(es++[ox o stM p]).length=es.length+1:=by simp
  rcases htf with htf|⟨_,hqt⟩
  ·have:=hgo (hchP p hp) (hkM.trans (hkeepP p hp)) (by rw [hl1];omega) (by rw [hl1];exact fun j i h1 h2 h3=>lY htf j i h1 h2 (by rw [hsz];exact h3)) (by rw [hl1];exact q1) q2;rw [hl1] at this;exact this
  ·intro fuel listed γ' a' w' hls hcn hcl hiff I;obtain ⟨es2,st2,rfl,hch2,hos2,hhp,hid,hdet2⟩:=yS hK (ops:=ops) _ (es.length+1) _ _ hqt q1;have hl2:es2.length=ops.size - (es.length+1):=by rw [←List.length_map (f:=(·.o)),hos2,List.length_drop,hsz]
   have hl3:(es++[ox o stM p]++es2).length=ops.size:=by rw [List.length_append,hl1,hl2];omega
   have hch':=(hchP p hp).append (es2:=es2) (st'':=st2) (by rw [Nat.zero_add,hl1];exact hch2);have hos':(es++[ox o stM p]++es2).map (·.o)=ops.toList.take (es++[ox o stM p]++es2).length:=by rw [List.map_append,hosP p,hos2,hl1,List.take_append_drop,hl3,←hsz,List.take_length]
   have C':Ctx T rec m ops (es++[ox o stM p]++es2) st st2:=AG hT hK hS hch' hwf0 hos' (by
    rw [List.reverse_append];refine rU (H:=p.2.1) ?_ _ fun e he=>hid e (List.mem_reverse.1 he);rw [List.reverse_append]
    exact iD (hdr p hp)) hsep'
   have hnp:=(hkeepP p hp).n
   have I':=I.exts (N:=N) (H:=p.2.1) (st2:=st2) (by omega) (hNP p hp) hf (by rw [hl1];exact hch2) hid rfl (fun i h1 h2=>by
    cases hD:gQ listed i with
    | false=>rfl
    | true =>
     rw [hl1] at h1 h2;have:=(hiff i (by omega)).1 hD
     omega)
   have hkp2:ej st.hp st2.hp:=by rw [hhp];exact hkM.trans (hkeepP p hp)
   refine tv (γ0:=γ) (w0:=w) (a0:=a) C' (fun j ev h=>hokl j _ (C'.oper h)) hback (Nat.le_of_eq hl3) (fun j i h1 _ h3=>by omega) (fun fuel listed γ' a' w'=>hgo hch' hkp2 (Nat.le_of_eq hl3) (fun j i h1 _ h3=>by omega) (Lp:=[st2]) (by rw [hl3,←hsz,List.drop_length];rfl) q2 fuel listed γ' a' w') fuel listed γ' a' w' hls hcn hcl (fun i h1 h2=>by omega) I' (fun j ev hev hd=>?_);by_cases hj:j < es.length+1
   ·rw [(hiff j (by omega)).2 hj] at hd;cases hd
   ·rw [List.getElem?_append_right (by rw [hl1];omega),hl1] at hev;have:=hdet2 _ ev hev
    rwa [show es.length+1+(j - (es.length+1))=j by omega] at this
 ·have hkp0:=(qq hK ops _ 0 st [] M hx).1.2;obtain ⟨es,stF,rfl,hch,hos,hdr,hdet⟩:=vT hK ops _ 0 st [] M hx;rw [cG] at hx2;obtain ⟨ht1,ht2⟩:=Ck ops;have hkp:ej st.hp stF.hp:=hkp0 stF (by simp);rw [List.append_nil] at hdr;have hlen:es.length=ez ops:=by rw [←List.length_map (f:=(·.o)),hos,List.length_take,Array.length_toList];omega
  have hNF:stF.hp.n≤N:=Good.le (fH hK _ _ _ _ hx2).1 hN;rw [←hlen] at ht1 ht2 hx2 hos;have C:Ctx T rec m ops es st stF:=AG hT hK hS hch hwf0 hos (iD hdr) hsep';exact tv (γ0:=γ) (w0:=w) (a0:=a) C (fun j ev h=>hokl j _ (C.oper h)) hback ht1 (fun j i h1 h2 h3=>ht2 j i h1 (by omega) h3) (fun fuel listed γ' a' w'=>hgo hch hkp ht1 ht2 hx2 (fun _ h=>h) fuel listed γ' a' w') ops.size _ γ a _ (by simp) (IJ _) hempty (fun i _ h2=>hnone i h2) (hstart C ht1 hNF) (fun j ev h _=>by have:=hdet j ev h;rwa [Nat.zero_add] at this)
end
end Go.RM
namespace Go.RM
open Go
def Tr.All {α:Type} (Q:Nat→α→Prop):Tr α→(Nat→Nat)→Prop
 | .leaf,_=>True
 | .node l v r,f=>(match v with|some x=>Q (f 0) x|none=>True)∧Tr.All Q l (fun i=>f (2 * i+1))∧Tr.All Q r (fun i=>f (2 * i+2))
theorem Tr.All.get {α:Type} {Q:Nat→α→Prop}:∀ {t:Tr α} {f:Nat→Nat},Tr.All Q t f→∀ (i:Nat) (x:α),t.get i=some x→Q (f i) x:=by
 intro t
 induction t with
 | leaf=>intro f _ i x h;rw [Tr.me] at h;cases h
 | node l v r ihl ihr =>
  intro f h i x hx;obtain ⟨h1,h2,h3⟩:=h;rw [Tr.fN] at hx;by_cases h0:i=0
  ·subst h0;rw [if_pos rfl] at hx;subst hx;exact h1
  ·rw [if_neg h0] at hx;by_cases h4:i % 2=1
   ·rw [if_pos h4] at hx;have:=ihl h2 _ _ hx;rw [show 2 * (i / 2)+1=i by omega] at this;exact this
   ·rw [if_neg h4] at hx;have:=ihr h3 _ _ hx;rw [show 2 * (i / 2 - 1)+2=i by omega] at this;exact this
def v8 (P:Program) (t:TypeId) (r:rB):Prop:=∃ i,P.info? t=some i∧i.size=r.size∧i.bytes=r.bytes∧i.zero=r.zero∧P.underlying t=some r.und ∧
 (match r.und with
  | .struct fs=>r.agg=true∧r.cz.length=fs.size∧∀ (j:Nat) (f:Field),fs[j]?=some f→∃ i',P.info? f.type=some i'∧r.cz[j]?=some (f.offset,i'.size)
  | .array _ e=>r.agg=true∧∃ i',P.info? e=some i'∧r.cM=i'.size
  | .slice e=>r.agg=false∧∃ i',P.info? e=some i'∧r.cM=i'.size
  | _=>r.agg=false)
def IM (P:Program) (t:TypeId) (s:Nat):Bool :=
 match P.info? t with
 | some i=>Nat.beq i.size s
 | none=>false
def AH (P:Program):List Field→List (Nat × Nat)→Bool
 | [],[]=>true
 | f :: fs,(o,s) :: l=>Nat.beq f.offset o && IM P f.type s && AH P fs l
 | _,_=>false
def IP (P:Program) (r:rB):Bool :=
 match r.und with
 | .struct fs=>r.agg && AH P fs.toList r.cz
 | .array _ e=>r.agg && IM P e r.cM
 | .slice e=>!r.agg && IM P e r.cM
 | _=>!r.agg
theorem tA {P:Program} {t:TypeId} {s:Nat} (h:IM P t s=true):∃ i,P.info? t=some i∧s=i.size:=by
 unfold IM at h;split at h
 ·rename_i i hi;exact ⟨i,hi,(Nat.eq_of_beq_eq_true h).symm⟩
 ·cases h
theorem we {P:Program}:∀ {fs:List Field} {l:List (Nat × Nat)},AH P fs l=true→l.length=fs.length∧∀ (j:Nat) (f:Field),fs[j]?=some f→∃ i,P.info? f.type=some i∧l[j]?=some (f.offset,i.size)
 | [],[],_=>⟨rfl,fun j f h=>by cases h⟩
 | f :: fs,(o,s) :: l,h=>by
  simp only [AH,qq7] at h;obtain ⟨⟨h1,h2⟩,h3⟩:=h;obtain ⟨e1,e2⟩:=we h3;refine ⟨by simp [e1],fun j f' hj=>?_⟩
  cases j with
  | zero =>cases hj;obtain ⟨i,q1,q2⟩:=tA h2;exact ⟨i,q1,by simp [q2,Nat.eq_of_beq_eq_true h1]⟩
  | succ j=>exact e2 j f' hj
 | [],_ :: _,h=>by cases h
 | _ :: _,[],h=>by cases h
theorem v8.mk {P:Program} {t:TypeId} {r:rB} {i:TypeInfo} (h1:P.info? t=some i) (h2:i.size=r.size) (h3:i.bytes=r.bytes) (h4:i.zero=r.zero) (h5:P.underlying t=some r.und) (h6:IP P r=true):v8 P t r:=by
 refine ⟨i,h1,h2,h3,h4,h5,?_⟩;unfold IP at h6;split at h6 <;> simp only [qq7,Bool.not_eq_true'] at h6
 ·obtain ⟨e1,e2⟩:=we h6.2;exact ⟨h6.1,by simpa using e1,fun j f hj=>e2 j f (by rw [Array.getElem?_toList];exact hj)⟩
 ·exact ⟨h6.1,tA h6.2⟩
 ·exact ⟨h6.1,tA h6.2⟩
 ·rename_i n1 n2 n3;revert h6 n1 n2 n3;cases r.und <;> intro n1 n2 n3 h6 <;> first|exact absurd rfl (n1 _)|exact absurd rfl (n2 _ _)|exact absurd rfl (n3 _)|exact h6
def IQ (fn : Func) : Bool := !(fn.name == "runtime.NumGoroutine") && (match fn.body with | some c => codeOk fn.ntmps c | none => true)
def Eo (P:Program) (f:FuncId) (fn:Func):Prop:=P.funcs[f]?=some fn∧IQ fn=true
theorem cx.mk' {T:bJ} (h1:Tr.All (v8 T.P) T.ty id) (h2:Tr.All (Eo T.P) T.fn id):cx T:=by refine ⟨fun t r h=>h1.get t r h,fun f fn h=>?_⟩;obtain ⟨e1,e2⟩:=h2.get f fn h;simp only [id] at e1;simp only [IQ,qq7,Bool.not_eq_true'] at e2;refine ⟨e1,e2.1,fun c hc=>?_⟩;rw [hc] at e2;exact e2.2
structure XE where
 f:FuncId
 args:List Value
 eA:List (List Value)
 res:Value
 news:List (List Value)
abbrev Ren:=Tr (Nat × Nat)
noncomputable def FM (lim k:Nat) (k' o:Nat) (φ:Ren):Option Ren :=
 bif Nat.blt k lim then
  match φ.get k with
  | none=>some (φ.set k (k',o))
  | some (k1,o1)=>bif Nat.beq k1 k' && Nat.beq o1 o then some φ else none
 else none
noncomputable def pS (lim:Nat) (p v:Value) (φ:Ren):Option Ren :=
 match p,v with
 | .slice (some ⟨k,0,none⟩) n c,.slice (some ⟨k',o,none⟩) n' _ =>bif Nat.beq n n' && Nat.beq c (n+2) then (bif Nat.beq n 0 then some φ else FM lim k k' o φ) else none
 | .pointer (some ⟨k,0,none⟩),.pointer (some ⟨k',o,none⟩)=>FM lim k k' o φ
 | _,_=>bif DZ p v then some φ else none
noncomputable def kH (lim:Nat):List Value→List Value→Ren→Option Ren
 | [],[],φ=>some φ
 | p :: ps,v :: vs,φ=>(pS lim p v φ).bind (kH lim ps vs)
 | _,_,_=>none
noncomputable def mw (lim:Nat) (p v:Value) (φ:Ren):Option Ren :=
 match p,v with
 | .agg ps,.agg vs=>kH lim ps.toList vs.toList φ
 | _,_=>pS lim p v φ
noncomputable def jc (lim:Nat):List Value→List Value→Ren→Option Ren
 | [],[],φ=>some φ
 | p :: ps,v :: vs,φ=>(mw lim p v φ).bind (jc lim ps vs)
 | _,_,_=>none
noncomputable def wg (lim:Nat) (p v:Value) (φ:Ren):Option Ren :=
 match p,v with
 | .tuple ps,.tuple vs=>jc lim ps.toList vs.toList φ
 | _,_=>mw lim p v φ
noncomputable def j7 (lim:Nat) (g:aH):List (List Value)→Nat→Ren→Option Ren
 | [],_,φ=>some φ
 | ps :: l,k,φ =>
  match φ.get k with
  | some (k',o) =>
   match cells? (g k') with
   | some (cs,_,_)=>match cut cs o ps.length with
    | some vs=>(kH lim ps vs φ).bind (j7 lim g l (k+1))
    | none=>none
   | none=>none
  | none=>none
def yT (φ ψ:Ren):Prop:=∀ k x,φ.get k=some x→ψ.get k=some x
theorem yT.refl (φ:Ren):yT φ φ:=fun _ _ h=>h
theorem yT.trans {a b c:Ren} (h:yT a b) (k:yT b c):yT a c:=fun i x hx=>k i x (h i x hx)
noncomputable def Gm.ren (γ:Gm) (φ:Ren):Gm where
 loc k:=(φ.get k).bind fun p=>(γ.loc p.1).map fun q=>(q.1,q.2+p.2)
 cap _:=0
 B:=γ.B
section
variable {γ : Gm} {lim : Nat} {φ ψ : Ren}
theorem Cm {k k' o:Nat} (h:FM lim k k' o φ=some ψ):yT φ ψ∧ψ.get k=some (k',o)∧k < lim∧∀ i x,ψ.get i=some x→φ.get i=some x∨i=k:=by
 unfold FM at h
 cases hl:Nat.blt k lim with
 | false=>rw [hl] at h;cases h
 | true =>
  rw [hl] at h;simp only [cond_true] at h;have hlt:=Nat.le_of_ble_eq_true hl;split at h
  ·rename_i hn;simp only [qq9] at h;subst h;refine ⟨fun i x hx=>?_,Tr.Ad _ _ _,hlt,fun i x hx=>?_⟩
   ·have:i ≠ k:=fun e=>by subst e;rw [hn] at hx;cases hx
    rw [Tr.vA _ _ this];exact hx
   ·by_cases hik:i=k
    ·exact .inr hik
    ·rw [Tr.vA _ _ hik] at hx;exact .inl hx
  ·rename_i k1 o1 hs
   cases hb:(Nat.beq k1 k' && Nat.beq o1 o) with
   | false=>rw [hb] at h;cases h
   | true =>rw [hb] at h;simp only [cond_true,qq9] at h;subst h;simp only [qq7] at hb;rw [Nat.eq_of_beq_eq_true hb.1,Nat.eq_of_beq_eq_true hb.2] at hs;exact ⟨yT.refl _,hs,hlt,fun i x hx=>.inl hx⟩
def wh (lim:Nat) (φ:Ren):Prop:=∀ k x,φ.get k=some x→k < lim
def S5 (γ:Gm) (lim:Nat) (φ ψ:Ren) (p v:Value):Prop:=yT φ ψ∧(wh lim φ→wh lim ψ)∧∀ χ,yT ψ χ→∀ v',VR γ v v'→VR (γ.ren χ) p v'
theorem FN {χ:Ren} {k k' o b d:Nat} (h:χ.get k=some (k',o)) (hl:γ.loc k'=some (b,d)):(γ.ren χ).loc k=some (b,d+o):=by simp [Gm.ren,h,hl]
theorem rV {p v:Value} (h:pS lim p v φ=some ψ):S5 γ lim φ ψ p v:=by
 unfold pS at h;split at h
 ·rename_i k n c k' o n' c'
  cases hb:(Nat.beq n n' && Nat.beq c (n+2)) with
  | false=>rw [hb] at h;cases h
  | true =>
   rw [hb] at h;simp only [qq7] at hb;obtain rfl:=Nat.eq_of_beq_eq_true hb.1;obtain rfl:=Nat.eq_of_beq_eq_true hb.2;simp only [cond_true] at h
   cases h0:Nat.beq n 0 with
   | true =>
    rw [h0] at h;simp only [cond_true,qq9] at h;subst h;obtain rfl:=Nat.eq_of_beq_eq_true h0;refine ⟨yT.refl _,id,fun χ _ v' hv=>?_⟩
    cases hv with
    | flat hf=>cases hf
    | slice hl hn ht hlo _=>exact .dh (by omega) (fun e=>by omega) (by omega)
    | dh h0 ht=>exact .dh (by omega) (fun e=>by omega) (by omega)
   | false =>
    rw [h0] at h;simp only [cond_false] at h;obtain ⟨e1,e2,e3,e4⟩:=Cm h;refine ⟨e1,fun hu i x hx=>?_,fun χ hχ v' hv=>?_⟩
    ·rcases e4 i x hx with h|rfl
     ·exact hu i x h
     ·exact e3
    ·have hne:n ≠ 0:=fun e=>by subst e;cases h0
     cases hv with
     | flat hf=>cases hf
     | slice hl hn ht hlo _ =>rename_i b d c'' _;have:=VR.slice (γ:=γ.ren χ) (k:=k) (o:=0) (n:=n) (c:=n+2) (c':=c'') (FN (hχ _ _ e2) hl) hn (fun e=>by omega) (fun e=>by omega) (fun e=>by omega);rw [Nat.add_zero] at this;exact this
     | dh=>exact absurd rfl hne
 ·rename_i k k' o;obtain ⟨e1,e2,e3,e4⟩:=Cm h;refine ⟨e1,fun hu i x hx=>?_,fun χ hχ v' hv=>?_⟩
  ·rcases e4 i x hx with h|rfl
   ·exact hu i x h
   ·exact e3
  ·cases hv with
   | flat hf=>cases hf
   | ptr hl =>rename_i b d;have:=VR.ptr (γ:=γ.ren χ) (o:=0) (FN (hχ _ _ e2) hl);rw [Nat.add_zero] at this;exact this
 ·cases hb:DZ p v with
  | false=>rw [hb] at h;cases h
  | true =>rw [hb] at h;simp only [cond_true,qq9] at h;subst h;obtain ⟨rfl,hf⟩:=Aq hb;refine ⟨yT.refl _,id,fun χ _ v' hv=>?_⟩;rw [hv.bM hf];exact .flat hf
def Ep (γ:Gm) (lim:Nat) (φ ψ:Ren) (ps vs:List Value):Prop:=yT φ ψ∧(wh lim φ→wh lim ψ)∧∀ χ,yT ψ χ→∀ vs',cv γ vs vs'→cv (γ.ren χ) ps vs'
theorem Ep.cons {p v:Value} {ps vs:List Value} {ψ':Ren} (h:S5 γ lim φ ψ p v) (k:Ep γ lim ψ ψ' ps vs):Ep γ lim φ ψ' (p :: ps) (v :: vs):=by
 refine ⟨h.1.trans k.1,fun hu=>k.2.1 (h.2.1 hu),fun χ hχ vs' hv=>?_⟩
 cases vs' with
 | nil=>exact absurd hv.1 (by simp)
 | cons v' vs' =>exact .cons (h.2.2 χ (k.1.trans hχ) v' (hv.2 0 v v' rfl rfl)) (k.2.2 χ hχ vs' ⟨by simpa using hv.1,fun i a b ha hb=>hv.2 (i+1) a b ha hb⟩)
theorem Ep.nil:Ep γ lim φ φ [] []:=⟨yT.refl _,id,fun χ _ vs' hv=>by
 cases vs' with
 | nil=>exact cv.nil _
 | cons=>exact absurd hv.1 (by simp)⟩
theorem lZ:∀ {ps vs:List Value} {φ ψ:Ren},kH lim ps vs φ=some ψ→Ep γ lim φ ψ ps vs
 | [],[],φ,ψ,h=>by cases h;exact .nil
 | p :: ps,v :: vs,φ,ψ,h=>by simp only [kH,Option.bind_eq_some_iff] at h;obtain ⟨χ,h1,h2⟩:=h;exact .cons (rV h1) (lZ h2)
 | [],_ :: _,_,_,h=>by cases h
 | _ :: _,[],_,_,h=>by cases h
theorem uA {p v:Value} (h:mw lim p v φ=some ψ):S5 γ lim φ ψ p v:=by
 unfold mw at h;split at h
 ·rename_i ps vs;obtain ⟨h1,h2,h3⟩:=lZ (γ:=γ) h;refine ⟨h1,h2,fun χ hχ v' hv=>?_⟩
  cases hv with
  | flat hf=>cases hf
  | agg e hc =>rename_i cs';have:=VR.kA (h3 χ hχ cs'.toList (cv.mQ e hc));simpa using this
 ·exact rV h
theorem nh:∀ {ps vs:List Value} {φ ψ:Ren},jc lim ps vs φ=some ψ→Ep γ lim φ ψ ps vs
 | [],[],φ,ψ,h=>by cases h;exact .nil
 | p :: ps,v :: vs,φ,ψ,h=>by simp only [jc,Option.bind_eq_some_iff] at h;obtain ⟨χ,h1,h2⟩:=h;exact .cons (uA h1) (nh h2)
 | [],_ :: _,_,_,h=>by cases h
 | _ :: _,[],_,_,h=>by cases h
theorem Cn {p v:Value} (h:wg lim p v φ=some ψ):S5 γ lim φ ψ p v:=by
 unfold wg at h;split at h
 ·rename_i ps vs;obtain ⟨h1,h2,h3⟩:=nh (γ:=γ) h;refine ⟨h1,h2,fun χ hχ v' hv=>?_⟩
  cases hv with
  | flat hf=>cases hf
  | tuple e hc =>rename_i cs';have:=VR.cF (h3 χ hχ cs'.toList (cv.mQ e hc));simpa using this
 ·exact uA h
def T2 (γ:Gm) (lim:Nat) (g:aH) (φ ψ:Ren) (l:List (List Value)) (k0:Nat):Prop:=yT φ ψ∧(wh lim φ→wh lim ψ) ∧
 ∀ (i:Nat) (ps:List Value),l[i]?=some ps→∃ k' o cs own es vs,ψ.get (k0+i)=some (k',o)∧g k'=some (.cells cs own es)∧cut cs o ps.length=some vs∧∀ χ,yT ψ χ→∀ vs',cv γ vs vs'→cv (γ.ren χ) ps vs'
theorem rW {g:aH}:∀ {l:List (List Value)} {k0:Nat} {φ ψ:Ren},j7 lim g l k0 φ=some ψ→T2 γ lim g φ ψ l k0
 | [],k0,φ,ψ,h=>by cases h;exact ⟨yT.refl _,id,fun i ps h=>by cases h⟩
 | ps :: l,k0,φ,ψ,h=>by
  unfold j7 at h;split at h
  ·rename_i k' o hφ;split at h
   ·rename_i cs own es hc;split at h
    ·rename_i vs hcut;simp only [Option.bind_eq_some_iff] at h;obtain ⟨χ,h1,h2⟩:=h;obtain ⟨a1,a2,a3⟩:=lZ (γ:=γ) h1;obtain ⟨b1,b2,b3⟩:=rW h2;refine ⟨a1.trans b1,fun hu=>b2 (a2 hu),fun i qs hi=>?_⟩
     cases i with
     | zero =>cases hi;exact ⟨k',o,cs,own,es,vs,b1 _ _ (a1 _ _ hφ),eW hc,hcut,fun χ' hχ'=>a3 χ' (b1.trans hχ')⟩
     | succ i =>obtain ⟨q1,q2,q3,q4,q5,q6,r1,r2⟩:=b3 i qs hi;exact ⟨q1,q2,q3,q4,q5,q6,by rw [show k0+(i+1)=k0+1+i by omega];exact r1,r2⟩
    ·cases h
   ·cases h
  ·cases h
end
end Go.RM
