/-
  An abstract machine, and that its runs are the model's. Lemmas alone; no condition.
-/
import Derived.Test.YtgdbfbalchdmcaaGreatR2
import Derived.OrdersIn
import Derived.OwnWalkIn
import Derived.LoopNIn
import Derived.RangeFuncNested
import Derived.RecoverIn
namespace Go.RM
open Go
theorem vw:∀ {l m:List UInt8},sM l m=true→l=m
 | [],[],_=>rfl
 | a :: l,b :: m,h=>by
  simp only [sM,Bool.and_eq_true] at h
  rw [vw h.2,UInt8.toNat_inj.1 (Nat.eq_of_beq_eq_true h.1)]
 | [],_ :: _,h=>by cases h
 | _ :: _,[],h=>by cases h
theorem H9 {a b:Int} (h:Kj a b=true):a=b:=by
 cases a <;> cases b <;> simp only [Kj,Bool.false_eq_true] at h
 ·rw [Nat.eq_of_beq_eq_true h]
 ·rw [Nat.eq_of_beq_eq_true h]
theorem Be {p v:Value} (h:GA p v=true):p=v∧bk v=true:=by
 unfold GA at h
 split at h
 ·simp at h;subst h;exact ⟨rfl,rfl⟩
 ·simp only [Bool.and_eq_true,beq_iff_eq] at h;obtain ⟨rfl,h⟩:=h;rw [H9 h];exact ⟨rfl,rfl⟩
 ·rename_i s t
  have:=vw h
  have e:s=t:=by
   cases s;cases t
   simp only at this
   rw [Array.toList_inj.1 this]
  rw [e];exact ⟨rfl,rfl⟩
 ·exact ⟨rfl,rfl⟩
 ·exact ⟨rfl,rfl⟩
 ·exact ⟨rfl,rfl⟩
 ·exact ⟨rfl,rfl⟩
 ·exact ⟨rfl,rfl⟩
 ·cases h
abbrev FW (r:Option Nat):Fence:={fn:=fun _=>True,depth:=none,alive:=false,round:=r}
def cP (γ:Gm) (a N:Nat):Prop:=∀ k,a≤k→k < N→γ.loc k=none
structure Step (γ:Gm) (H:Hp) (w:World) (γ':Gm) (H':Hp) (w':World):Prop where
 n:H.n≤H'.n
 le:γ.Le γ'
 out:∀ k,(k < H.n∨H'.n≤k)→γ'.loc k=γ.loc k
 hr:HR γ' H'.get w'
 iJ:lB γ H.get w γ' H'.get w'
section
variable {T : bM} {γ γ' γ1 γ2 : Gm} {H H' H1 H2 : Hp} {w w' w1 w2 : World} {N : Nat}
theorem Step.refl (h:HR γ H.get w):Step γ H w γ H w:=⟨Nat.le_refl _,Gm.Le.refl γ,fun _ _=>rfl,h,lB.refl _ _ _⟩
theorem Step.trans (a:Step γ H w γ1 H1 w1) (b:Step γ1 H1 w1 γ2 H2 w2):Step γ H w γ2 H2 w2 :=
 ⟨Nat.le_trans a.n b.n,a.le.trans b.le,fun k hk=>by
  have h1:=a.n
  have h2:=b.n
  rw [b.out k (by omega),a.out k (by omega)],b.hr,a.iJ.trans b.iJ⟩
theorem Step.fresh (a:Step γ H w γ1 H1 w1) (h:cP γ H.n N):cP γ1 H1.n N:=fun k h1 h2=>by
 rw [a.out k (.inr h1)]
 exact h k (Nat.le_trans a.n h1) h2
theorem HR.off {g:aE} (h:HR γ g w) (hs:w.heap.size≤w'.heap.size) (hh:∀ k b o,γ.loc k=some (b,o)→w'.heap[b]?=w.heap[b]?) (hg:∀ b,b < γ.B→w'.heap[b]?=w.heap[b]?):HR γ g w' :=
 ⟨fun k b o a ha hl=>(h.iQ k b o a ha hl).mono (Gm.Le.refl γ) hl (hh k b o hl),h.inj,fun k b o hl=>Nat.lt_of_lt_of_le (h.lt k b o hl) hs,Nat.le_trans h.base hs,fun x hx=>⟨(h.gl x hx).1,by rw [hg _ (h.gl x hx).1];exact (h.gl x hx).2⟩⟩
theorem lB.off {g g':aE} (u:lB γ g w γ' g' w1) (h1:w2.os=w1.os) (h2:w2.tape=w1.tape) (h3:w2.output=w1.output) (hs:w1.heap.size≤w2.heap.size)
  (hh:∀ b,b < w.heap.size→w2.heap[b]?=w1.heap[b]?):lB γ g w γ' g' w2 :=
 ⟨h1.trans u.os,h2.trans u.tape,h3.trans u.output,Nat.le_trans u.size hs,fun b hb hn=>(hh b hb).trans (u.same b hb hn),u.vm,u.live,u.uw⟩
theorem qi (e:cG):(H.app e).n=if e.news=true then H.n+1 else H.n:=by cases e <;> rfl
theorem aT.step {s:Sem Next} {v:Value} {e:cG} (h:aT T.P γ H.get w H.n s v e) :
  ∃ v' w' γ',(s.run T.P w=.ok (.value v') w'∨(s.run T.P w=.ok .skip w'∧v'=undef))∧VR γ' v v'∧Step γ H w γ' (H.app e) w':=by
 obtain ⟨v',w',γ',h1,h2,h3,h4,h5,h6⟩:=h
 refine ⟨v',w',γ',h1,h5,?_,h2,fun k hk=>h3 k fun e'=>?_,by rw [Hp.A1];exact h4,by rw [Hp.A1];exact h6⟩
 ·rw [qi];split <;> omega
 ·rw [qi] at hk
  subst e'
  cases hn:e.news with
  | false=>rfl
  | true=>rw [hn] at hk;simp at hk;omega
structure NB where
 n:Nat
 ds:List Deferred
def s8 (γ:Gm) (w:World) (N0:NB) (ds:List Deferred):Prop :=
 ∃ rs:List Nat,ds=rs.map (fun r=>{target:=.collected r,args:=#[]})++N0.ds∧rs.Nodup∧∀ r ∈ rs,N0.n≤r∧w.heap[r]?=some (.deferred (some []))∧∀ k o,γ.loc k ≠ some (r,o)
theorem s8.nil (γ:Gm) (w:World) (N0:NB):s8 γ w N0 N0.ds:=⟨[],rfl,List.nodup_nil,fun r hr=>by cases hr⟩
theorem s8.step {N0:NB} {ds:List Deferred} (h:s8 γ w N0 ds) (s:Step γ H w γ' H' w'):s8 γ' w' N0 ds:=by
 obtain ⟨rs,h1,h2,h3⟩:=h
 refine ⟨rs,h1,h2,fun r hr=>?_⟩
 obtain ⟨a,b,c⟩:=h3 r hr
 have hlt:r < w.heap.size:=(Array.getElem?_eq_some_iff.1 b).1
 refine ⟨a,(s.iJ.same r hlt fun k o _ _ _ hl=>c k o hl).trans b,fun k o hl=>?_⟩
 obtain ⟨k0,o0,hl0⟩:=s.iJ.uw k r o hl hlt
 exact c k0 o0 hl0
theorem vz {fr:Tr Value} {a:Act} (h:uu γ fr a.tmps) {x:Operand} (hx:mO x=true):VR γ (aX fr x) (a.eval x):=by
 cases x with
 | tmp t=>exact h t
 | const v=>exact VR.of_flat hx
 | global g=>cases hx
 | func f=>exact .func rfl rfl (fun i a _=>absurd a (by simp)) (fun i a _=>absurd a (by simp))
theorem CA {tm:Array Value} {d i:Nat} {v:Value} (hd:d < tm.size):(tm.setIfInBounds d v).getD i undef=if i=d then v else tm.getD i undef:=by
 simp only [Array.getD_eq_getD_getElem?,Array.getElem?_setIfInBounds]
 by_cases h:i=d
 ·subst h;simp [hd]
 ·simp [h,Ne.symm h]
theorem uu.set {fr:Tr Value} {tm:Array Value} (h:uu γ fr tm) {v v':Value} (hv:VR γ v v') {d:Nat} (hd:d < tm.size):uu γ (fr.set d v) (tm.setIfInBounds d v'):=by
 intro i
 rw [Tr.iP,CA hd]
 by_cases hi:i=d
 ·rw [if_pos hi,if_pos hi];exact hv
 ·rw [if_neg hi,if_neg hi];exact h i
theorem uu.put {fr:Tr Value} {a:Act} (h:uu γ fr a.tmps) {v v':Value} (hv:VR γ v v') {dst:Option Tmp} (hd:∀ d,dst=some d→d < a.tmps.size):uu γ (dR fr dst v) (a.put dst v').tmps:=by
 cases dst with
 | none=>exact h
 | some d=>exact h.set hv (hd d rfl)
theorem dF (a:Act) (dst:Option Tmp) (v:Value):(a.put dst v).tmps.size=a.tmps.size:=by cases dst <;> simp [Act.put]
theorem put_defers (a:Act) (dst:Option Tmp) (v:Value):(a.put dst v).defers=a.defers:=by cases dst <;> rfl
theorem VR.CB {v:Value} {b:Bool} (h:VR γ v (.bool b)):v=.bool b:=by cases h with|flat=>rfl
theorem Bf {fr:Tr Value} {tm:Array Value} (ops:Array Oper) (o:Oper) (h:∀ g want q d,o.guard=some (g,want)→ops[g]?=some q→q.dst=some d→VR γ ((fr.get d).getD undef) (tm.getD d undef)):Region.wanted o (yielded ops tm)=bx ops.toList fr o.guard:=by
 unfold Region.wanted bx
 cases hgu:o.guard with
 | none=>rfl
 | some p =>
  obtain ⟨j,want⟩:=p
  simp only [yielded,Array.getElem?_toList]
  cases hoq:ops[j]? with
  | none=>rfl
  | some q =>
   obtain ⟨dst,op,ty,pos,after,guard⟩:=q
   cases dst with
   | none=>rfl
   | some d =>
    simp only [Option.bind_some]
    have hd:=h j want _ d hgu hoq rfl
    rw [Array.getD_eq_getD_getElem?] at hd
    cases hf:fr.get d with
    | none =>
     rw [hf] at hd
     simp only
     cases ht:tm[d]? with
     | none=>rfl
     | some u =>
      rw [ht] at hd
      simp at hd
      cases u <;> first|rfl|skip
      have:=hd.CB
      cases this
    | some x =>
     rw [hf] at hd
     simp at hd
     cases x with
     | bool b =>
      have:=hd.cW rfl
      cases ht:tm[d]? with
      | none=>rw [ht] at this;cases this
      | some u =>
       rw [ht] at this
       simp at this
       subst this
       cases b <;> cases want <;> rfl
     | _ =>
      cases ht:tm[d]? with
      | none=>rfl
      | some u =>
       rw [ht] at hd
       simp at hd
       cases u <;> first|rfl|(have:=hd.CB;cases this)
theorem uD {fr:Tr Value} {tm:Array Value} (h:uu γ fr tm) (ops:Array Oper) (o:Oper):Region.wanted o (yielded ops tm)=bx ops.toList fr o.guard :=
 Bf ops o fun _ _ _ d _ _ _=>h d
theorem vA:∀ (l:List Value) (t:Tr Value) (i j:Nat),(setArgs t i l).get j=if i≤j∧j < i+l.length then l[j - i]? else t.get j:=by
 intro l
 induction l with
 | nil=>intro t i j;simp [setArgs];intro h1 h2;omega
 | cons v vs ih =>
  intro t i j
  rw [setArgs,ih,Tr.iP]
  simp only [List.length_cons]
  by_cases hj:j=i
  ·subst hj;simp;omega
  ·by_cases h:i≤j∧j < i+(vs.length+1)
   ·rw [if_pos h,if_pos (by omega)]
    obtain ⟨q,rfl⟩:∃ q,j=i+1+q:=⟨j - (i+1),by omega⟩
    rw [show i+1+q - (i+1)=q by omega,show i+1+q - i=q+1 by omega]
    rfl
   ·rw [if_neg h,if_neg (by omega),if_neg hj]
theorem uu.args {args args':List Value} (h:cB γ args args') (n:Nat):uu γ (setArgs .leaf 0 args) (args'.toArray++Array.replicate n undef):=by
 intro i
 rw [vA,Array.getD_eq_getD_getElem?,Array.getElem?_append]
 have hl:=h.1
 by_cases hi:i < args.length
 ·rw [if_pos ⟨Nat.zero_le _,by omega⟩,if_pos (by simp;omega)]
  have h1:args[i]?=some (args[i]'hi):=List.getElem?_eq_getElem hi
  obtain ⟨v',e1,e2⟩:=h.get h1
  simp only [Nat.sub_zero,h1,Option.getD_some,List.getElem?_toArray,e1]
  exact e2
 ·rw [if_neg (by omega),if_neg (by simp;omega)]
  have:(Array.replicate n undef)[i - args'.toArray.size]?.getD undef=undef:=by
   rw [Array.getElem?_replicate];split <;> rfl
  rw [this]
  exact VR.undef γ
theorem CC:∀ (l:List (Tmp × Value)) (l':List (Tmp × Value)) (fr:Tr Value) (tm:Array Value),uu γ fr tm→l.length=l'.length →
  (∀ (i:Nat) (p p':Tmp × Value),l[i]?=some p→l'[i]?=some p'→p.1=p'.1∧VR γ p.2 p'.2∧p'.1 < tm.size) →
  uu γ (fE fr l) (l'.foldl (fun tmps (t,a)=>tmps.setIfInBounds t a) tm)∧(l'.foldl (fun tmps (t,a)=>tmps.setIfInBounds t a) tm).size=tm.size:=by
 intro l
 induction l with
 | nil=>intro l' fr tm h hl _;cases l' with
  | nil=>exact ⟨h,rfl⟩
  | cons=>cases hl
 | cons p l ih =>
  intro l' fr tm h hl hh
  cases l' with
  | nil=>cases hl
  | cons p' l' =>
   obtain ⟨e1,e2,e3⟩:=hh 0 p p' rfl rfl
   obtain ⟨d,v⟩:=p
   obtain ⟨d',v'⟩:=p'
   simp only at e1 e2 e3
   subst e1
   have hsz:(tm.setIfInBounds d v').size=tm.size:=by simp
   obtain ⟨r1,r2⟩:=ih l' (fr.set d v) (tm.setIfInBounds d v') (h.set e2 e3) (by simpa using hl) fun i p p' a b=>by
    rw [hsz];exact hh (i+1) p p' a b
   exact ⟨r1,r2.trans hsz⟩
theorem GM (hT:bO T) {g:aE} (h:HR γ g w) {t:TypeId} {a a' v:Value} {e:cG} (ho:jt T t a g=some (v,e)) (ha:VR γ a a') :
  ∃ ad v',a'=.pointer (some ad)∧(loadVar t ad).run T.P w=.ok v' w∧VR γ v v':=by
 unfold jt at ho
 cases hk:addr? a with
 | none=>rw [hk] at ho;cases ho
 | some ko =>
  obtain ⟨k,o⟩:=ko
  rw [hk] at ho
  simp only at ho
  cases hc:cells? (g k) with
  | none=>rw [hc] at ho;cases ho
  | some c0 =>
   obtain ⟨cs,own,es⟩:=c0
   cases hty:T.ty.get t with
   | none=>rw [hc,hty] at ho;cases ho
   | some r =>
    obtain ⟨i,hi,hsz,_,_,hu,_⟩:=hT.ty t r hty
    have hag:=hT.agg hty
    obtain ⟨jI,s,bytes,zero,agg,cy,dh⟩:=r
    rw [hc,hty] at ho
    simp only at ho hsz hu hag
    obtain ⟨b,d,hl,rfl⟩:=ha.addr hk
    obtain ⟨cs',el,fz,hw,hcr,_⟩:=h.cells hc hl
    cases agg with
    | true =>
     simp only [cond_true,Option.map_eq_some_iff,Prod.mk.injEq] at ho
     obtain ⟨c,hcut,rfl,rfl⟩:=ho
     obtain ⟨c',hv,hlen,hat,_,_⟩:=hcr.HY hcut
     refine ⟨_,.agg c'.toArray,rfl,?_,VR.mm hv⟩
     have hload:=run_loadCells_list (P:=T.P) w ⟨b,d+o,none⟩ c' (fun j v hj=>by rw [Addr.add_lit,sS hw];exact hat j v hj)
     rw [hlen,←hsz] at hload
     simp [loadVar,nJ hu,←hag,ei hi,hload]
    | false =>
     simp only [cond_false,Option.map_eq_some_iff,Prod.mk.injEq] at ho
     obtain ⟨x,hx,rfl,rfl⟩:=ho
     obtain ⟨x',h1,h2⟩:=hcr o x hx
     refine ⟨_,x',rfl,?_,h2⟩
     simp [loadVar,nJ hu,←hag,load,Sem.run,sS hw,h1]
theorem eG {α β:Type} {P:Program} {s:Sem α} {k:α→Sem β} {a:α} {w w1:World} (h:s.run P w=.ok a w1):(s >>= k).run P w=(k a).run P w1:=by
 simp [h]
def Mp (tm:Array Value):ResultVar→Sem Value
 | .tmp t=>pure (tm.getD t undef)
 | .cell a t=>do loadVar t (←asAddr (tm.getD a undef))
theorem Ex (fn:Func) (tm:Array Value):results fn tm=(do
  let vs ←fn.results.mapM (Mp tm)
  pure (if h:vs.size=1 then vs[0] else .tuple vs)):=by
 unfold results
 congr 2
theorem CD (hT:bO T) {fr:Tr Value} {tm:Array Value} (h:HR γ H.get w) (hf:uu γ fr tm):∀ (rs:List ResultVar) (vs:List Value),fY T fr H rs=some vs →
  ∃ vs',(List.mapM (m:=Sem) (Mp tm) rs).run T.P w=.ok vs' w∧cB γ vs vs':=by
 intro rs
 induction rs with
 | nil=>intro vs hv;cases hv;exact ⟨[],rfl,cB.nil γ⟩
 | cons r rs ih =>
  intro vs hv
  rw [fY] at hv
  cases hr:zP T fr H r with
  | none=>rw [hr] at hv;cases hv
  | some v =>
   rw [hr] at hv
   simp only [Option.map_eq_some_iff] at hv
   obtain ⟨us,hus,rfl⟩:=hv
   obtain ⟨us',h1,h2⟩:=ih us hus
   cases r with
   | tmp t =>
    simp only [zP,Option.some.injEq] at hr
    subst hr
    refine ⟨tm.getD t undef :: us',?_,.cons (hf t) h2⟩
    rw [List.mapM_cons,eG rfl,eG h1]
    rfl
   | cell a t =>
    simp only [zP,Option.map_eq_some_iff] at hr
    obtain ⟨⟨x,e⟩,hx,rfl⟩:=hr
    obtain ⟨ad,v',e1,e2,e3⟩:=GM hT h hx (hf a)
    refine ⟨v' :: us',?_,.cons e3 h2⟩
    rw [List.mapM_cons,eG (a:=v') (w1:=w) (by simp only [Mp];rw [e1];simp [asAddr,e2]),eG h1]
    rfl
theorem Bg {vs vs':List Value} (h:cB γ vs vs'):VR γ (bE vs) (bE vs'):=by
 match vs,vs',h with
 | [],[],h=>exact VR.de h
 | [v],[v'],h=>exact h.2 0 v v' rfl rfl
 | a :: b :: l,a' :: b' :: l',h=>exact VR.de h
 | [],_ :: _,h=>exact absurd h.1 (by simp)
 | [_],[],h=>exact absurd h.1 (by simp)
 | [_],_ :: _ :: _,h=>exact absurd h.1 (by simp)
 | _ :: _ :: _,[],h=>exact absurd h.1 (by simp)
 | _ :: _ :: _,[_],h=>exact absurd h.1 (by simp)
theorem qT (hT:bO T) {fr:Tr Value} {tm:Array Value} (h:HR γ H.get w) (hf:uu γ fr tm) {fn:Func} {vs:List Value} (hv:fY T fr H fn.results.toList=some vs) :
  ∃ v',(results fn tm).run T.P w=.ok v' w∧VR γ (bE vs) v':=by
 obtain ⟨vs',h1,h2⟩:=CD hT h hf fn.results.toList vs hv
 refine ⟨bE vs',?_,Bg h2⟩
 rw [Ex,Array.mapM_eq_mapM_toList]
 rw [eG (a:=vs'.toArray) (w1:=w) (by rw [map_eq_pure_bind,eG h1];rfl)]
 match vs' with
 | []=>rfl
 | [v]=>rfl
 | a :: b :: l=>simp [bE]
end
end Go.RM
namespace Go.RM
open Go
theorem mW {n m:Nat} (h:n≤m):∀ {c:Code},codeOk n c=true→codeOk m c=true:=by
 intro c
 induction c with
 | region id ops draw =>
  intro hc
  simp only [codeOk,Bool.and_eq_true,List.all_eq_true] at hc ⊢
  refine ⟨hc.1,fun o ho=>⟨(hc.2 o ho).1,?_⟩⟩
  have:=(hc.2 o ho).2
  cases hd:o.dst with
  | none=>rfl
  | some d =>
   rw [hd] at this
   simp only at this ⊢
   have h1:=Nat.le_of_ble_eq_true this
   exact Nat.ble_eq_true_of_le (Nat.le_trans h1 h)
 | seq a b iha ihb=>intro hc;simp only [codeOk,Bool.and_eq_true] at hc ⊢;exact ⟨iha hc.1,ihb hc.2⟩
 | cond x a b iha ihb=>intro hc;simp only [codeOk,Bool.and_eq_true] at hc ⊢;exact ⟨⟨hc.1.1,iha hc.1.2⟩,ihb hc.2⟩
 | block id c ih=>intro hc;simp only [codeOk] at hc ⊢;exact ih hc
 | loop c ih=>intro hc;simp only [codeOk] at hc ⊢;exact ih hc
 | scope c ih=>intro hc;simp only [codeOk] at hc ⊢;exact ih hc
 | rangeFunc f ps a b iha ihb =>
  intro hc
  simp only [codeOk,Bool.and_eq_true,List.all_eq_true] at hc ⊢
  exact ⟨⟨⟨hc.1.1.1,fun p hp=>Nat.ble_eq_true_of_le (Nat.le_trans (Nat.le_of_ble_eq_true (hc.1.1.2 p hp)) h)⟩,iha hc.1.2⟩,ihb hc.2⟩
 | _=>intro _;rfl
structure Pre (γ:Gm) (st:St) (a:Act) (w:World) (rr:Option Nat) (N0:NB):Prop where
 fr:uu γ st.fr a.tmps
 hr:HR γ st.hp.get w
 rd:st.rd=rr.isSome
 df:s8 γ w N0 a.defers
 wf:Wf st.hp
 lp:∀ b,rr=some b→∃ l,γ.loc l=some (b,0)∧pZ (st.hp.get l)=true
def rG (γ:Gm) (H:Hp) (w:World) (L:List fQ) (e:Ending) (w':World):Prop :=
 ∃ v hp v' γ',fQ.ret v hp ∈ L∧e=.returned v'∧VR γ' v v'∧Step γ H w γ' hp w'
def kK (γ:Gm) (H:Hp) (w:World) (sz:Nat) (rd:Option Nat) (N0:NB) (L:List (Exit × St)) (e:Exit) (a':Act) (w':World):Prop :=
 ∃ p ∈ L,∃ γ',e=p.1∧Pre γ' p.2 a' w' rd N0∧a'.tmps.size=sz∧Step γ H w γ' p.2.hp w'
theorem kK.trans {γ γ1:Gm} {H H1:Hp} {w w1 w2:World} {sz:Nat} {rd:Option Nat} {N0:NB} {L M:List (Exit × St)} {e:Exit} {a:Act}
  (s:Step γ H w γ1 H1 w1) (h:kK γ1 H1 w1 sz rd N0 M e a w2) (hs:∀ p ∈ M,p ∈ L):kK γ H w sz rd N0 L e a w2:=by
 obtain ⟨p,hp,γ',h1,h2,h3,h4⟩:=h
 exact ⟨p,hs p hp,γ',h1,h2,h3,s.trans h4⟩
structure bF (T : bM) (rec : pR → Option (List fQ)) (m : Nat) : Prop where
  call : ∀ f args hp L, rec (.call f args hp) = some L → (∃ fn c, T.P.funcs[f]? = some fn ∧ (fn.name == "runtime.NumGoroutine") = false ∧ fn.body = some c) ∧
    ∀ γ w args' N, Wf hp → HR γ hp.get w → cP γ hp.n N → (∀ r ∈ L, r.hp.n ≤ N) → cB γ args args' → CallsIn (FW none) 0 T.P f args'.toArray w (rG γ hp w L)
  round : ∀ l args hp L, rec (.round l args hp) = some L → ∀ γ w args' N b, Wf hp → γ.loc l = some (b, 0) → HR γ hp.get w → cP γ hp.n N → (∀ r ∈ L, r.hp.n ≤ N) → cB γ args args' →
    ∃ r : Loop, w.heap[b]? = some (.loop r) ∧ args'.length = r.params.size ∧
      RoundIn (FW none) 0 T.P b r.fn ((r.params.zip args'.toArray).foldl (fun tmps (t, a) => tmps.setIfInBounds t a) r.tmps) r.assign r.body w (rG γ hp w L)
  loop : ∀ c st Lr, rec (.loop c st) = some Lr → ∀ L, (∀ r ∈ Lr, ∃ p ∈ L, r = .out p.1 p.2) → ∀ γ w a rd N0 N, Pre γ st a w rd N0 → codeOk a.tmps.size c = true → cP γ st.hp.n N → (∀ r ∈ Lr, r.hp.n ≤ N) →
    N0.n ≤ w.heap.size → Code.roundsIn (FW rd) 0 T.P c (kK γ st.hp w a.tmps.size rd N0 L) m a w
def uE (T:bM) (rec:pR→Option (List fQ)):Prop :=
 ∀ id ops st L,cS T rec ops st=some L→∀ γ w a rd N0 N,Pre γ st a w rd N0→codeOk a.tmps.size (.region id ops true)=true→cP γ st.hp.n N→(∀ s ∈ L,s.hp.n≤N) →
  (Code.region id ops true).wpIn (FW rd) 0 T.P (kK γ st.hp w a.tmps.size rd N0 (L.map fun s=>(.normal,s))) a w
section
variable {T : bM} {rec : pR → Option (List fQ)} {m : Nat}
theorem VR.kL {γ:Gm} {f:FuncId} {fs cs:Array Value} {v:Value} (h:VR γ (.func (.func f) fs cs) v):∃ fs' cs',v=.func (.func f) fs' cs'∧cB γ fs.toList fs'.toList∧cB γ cs.toList cs'.toList:=by
 cases h with
 | flat h=>cases h
 | func h1 h2 hf hc=>exact ⟨_,_,rfl,.og h1 hf,.og h2 hc⟩
theorem VR.qU {γ:Gm} {l:Nat} {fs cs:Array Value} {v:Value} (h:VR γ (.func (.yield l) fs cs) v):fs=#[]∧∃ b,v=.func (.yield b) #[] #[]∧γ.loc l=some (b,0):=by
 cases h with
 | flat h=>cases h
 | yield h=>exact ⟨rfl,_,rfl,h⟩
theorem jd {v:Value} {args:List Value} {f:FuncId} {as:List Value} (h:cC v args=some (.fn f as)):∃ fs cs,v=.func (.func f) fs cs∧as=fs.toList++args++cs.toList:=by
 unfold cC at h
 split at h
 ·simp only [Option.some.injEq,Goal.fn.injEq] at h
  obtain ⟨rfl,rfl⟩:=h
  exact ⟨_,_,rfl,rfl⟩
 ·simp at h
 ·cases h
theorem lK {v:Value} {args:List Value} {l:Nat} {as:List Value} (h:cC v args=some (.yield l as)):∃ fs cs,v=.func (.yield l) fs cs∧as=fs.toList++args:=by
 unfold cC at h
 split at h
 ·simp at h
 ·simp only [Option.some.injEq,Goal.yield.injEq] at h
  obtain ⟨rfl,rfl⟩:=h
  exact ⟨_,_,rfl,rfl⟩
 ·cases h
theorem lM {P : Program} {f : FuncId} {fn : Func} {c : Code} (h : P.funcs[f]? = some fn) (hn : (fn.name == "runtime.NumGoroutine") = false) (hb : fn.body = some c) (args : Array Value) (w : World) :
    (callFunc f args).run P w = .ok (.enter f args) w := by
  unfold callFunc
  have hn' : ¬ fn.name = "runtime.NumGoroutine" := by simpa using hn
  simp [program, Sem.run, h, hn', hb]
theorem xx (hS:bF T rec m) {γ:Gm} {H:Hp} {w:World} {v v':Value} {args args':List Value} {g:Goal} {L:List fQ} {N:Nat} (hg:cC v args=some g) (hv:VR γ v v') (ha:cB γ args args')
  (hr:rec (lz H g)=some L) (hw:Wf H) (hh:HR γ H.get w) (hf:cP γ H.n N) (hN:∀ r ∈ L,r.hp.n≤N) {d:Deferred} (hd:(Deferred.ofValue v' args'.toArray).run T.P w=.ok d w) :
  (∃ f as,(invoke d.target d.args).run T.P w=.ok (.enter f as) w∧CallsIn (FW none) 0 T.P f as w (rG γ H w L)) ∨
  (∃ l f tm asg bd,(invoke d.target d.args).run T.P w=.ok (.round l f tm asg bd) w∧RoundIn (FW none) 0 T.P l f tm asg bd w (rG γ H w L)):=by
 cases g with
 | fn f as =>
  obtain ⟨fs,cs,rfl,rfl⟩:=jd hg
  obtain ⟨fs',cs',rfl,e1,e2⟩:=hv.kL
  obtain ⟨⟨fn,c,h1,h2,h3⟩,hcall⟩:=hS.call _ _ _ _ hr
  have hd':d={target:=.fn (.func f) cs',args:=fs'++args'.toArray}:=by
   simp only [Deferred.ofValue] at hd
   cases hd;rfl
  subst hd'
  refine .inl ⟨f,fs'++args'.toArray++cs',lM h1 h2 h3 _ w,?_⟩
  have:=hcall γ w (fs'.toList++args'++cs'.toList) N hw hh hf hN ((e1.append ha).append e2)
  have he:(fs'.toList++args'++cs'.toList).toArray=fs'++args'.toArray++cs':=by apply Array.ext';simp
  rw [he] at this
  exact this
 | yield l as =>
  obtain ⟨fs,cs,rfl,rfl⟩:=lK hg
  obtain ⟨rfl,b,rfl,hl⟩:=hv.qU
  have hd':d={target:=.fn (.yield b) #[],args:=#[]++args'.toArray}:=by
   simp only [Deferred.ofValue] at hd
   cases hd;rfl
  subst hd'
  obtain ⟨r,h1,h2,h3⟩:=hS.round _ _ _ _ hr γ w args' N b hw hl hh hf hN (by simpa using ha)
  refine .inr ⟨b,r.fn,_,r.assign,r.body,?_,h3⟩
  show (Instr.yield b (#[]++args'.toArray)).run T.P w=_
  rw [Array.empty_append]
  exact run_yield h1 (by simpa using h2)
theorem CE {o:Op} {f:Ni} {as:List Operand} (h:dc o=.call f as):(∃ x args tys,o=.call ⟨.value x,args,tys⟩∧f=.op x∧as=args.toList)∨∃ r name args tys,o=.call ⟨.invoke r name,args,tys⟩∧f=.Gz r name∧as=args.toList:=by
 unfold dc at h
 split at h
 ·simp only [Kind.call.injEq] at h;obtain ⟨rfl,rfl⟩:=h;exact .inl ⟨_,_,_,rfl,rfl,rfl⟩
 ·simp only [Kind.call.injEq] at h;obtain ⟨rfl,rfl⟩:=h;exact .inr ⟨_,_,_,_,rfl,rfl,rfl⟩
 ·cases h
 ·cases h
theorem Ey {P:Program} {v:Value} {name:String} {vs:List Value} {g:Goal} (h:cC (wR P v name) vs=some g):∃ t x f r,v=.iface t x∧aD P (method (P.types.size+Made.depth) t x name)=some (f,r)∧flat r=true∧wR P v name=.func (.func f) #[r] #[]:=by
 unfold wR at h ⊢
 split at h
 ·rename_i t x
  split at h
  ·rename_i f r hp
   cases hr:flat r with
   | true=>exact ⟨t,x,f,r,rfl,hp,hr,by simp only [cond_true]⟩
   | false=>rw [hr] at h;cases h
  ·cases h
 ·cases h
theorem Pm {α:Type} (x:α) (b:Array α):(#[x]++b)[0]?=some x:=by
 rw [←Array.getElem?_toList,Array.toList_append];rfl
theorem Pn {α:Type} (x:α) (b:Array α):(#[x]++b).extract 1 (#[x]++b).size=b:=by
 apply Array.ext'
 rw [Array.toList_extract,Array.toList_append,Array.size_append]
 show (x :: b.toList).extract 1 _=_
 simp [List.extract]
 rw [show b.size=b.toList.length from Array.length_toList.symm]
 rw [List.take_of_length_le (by omega)]
theorem wD {T:bM} {γ:Gm} {o:Oper} {f:Ni} {as:List Operand} (hk:dc o.op=.call f as) {fr:Tr Value} {a:Act} (hev:∀ x ∈ o.op.operands,VR γ (aX fr x) (a.eval x)) {vs:List Value} {g:Goal} (hg:cC (nG T.P fr f) vs=some g) (w:World) :
  (∀ c,o.op ≠ .defer c)∧cB γ (as.map (aX fr)) (as.map a.eval)∧∃ vf',VR γ (nG T.P fr f) vf'∧∀ d,(Deferred.ofValue vf' (as.map a.eval).toArray).run T.P w=.ok d w→(execOp a.eval o).run T.P w=(invoke d.target d.args).run T.P w:=by
 rcases CE hk with ⟨x,args,tys,hop,rfl,rfl⟩|⟨r,name,args,tys,hop,rfl,rfl⟩
 ·refine ⟨(by rw [hop];intro c hc;cases hc),cB.map fun x hx=>hev x (by rw [hop];simp [Op.operands,Call.operands];exact .inr (by simpa using hx)),a.eval x,hev x (by rw [hop];simp [Op.operands,Call.operands]),fun d hd=>?_⟩
  obtain ⟨dst,op,ty,pos,after,guard⟩:=o
  simp only at hop
  subst hop
  show (do let d ←resolve a.eval ⟨.value x,args,tys⟩ ty;invoke d.target d.args:Sem Next).run T.P w=_
  refine eG ?_
  have e2:(args.toList.map a.eval).toArray=args.map a.eval:=by apply Array.ext';simp
  rw [e2] at hd
  exact hd
 ·obtain ⟨t,x,f0,rv,hv,hp,hfl,hm⟩:=Ey hg
  have hr:a.eval r=.iface t x:=by
   have:=hev r (by rw [hop];simp [Op.operands,Call.operands])
   rw [hv] at this
   generalize a.eval r=y at this
   cases this with
   | flat=>rfl
  have hvr:VR γ (nG T.P fr (.Gz r name)) (.func (.func f0) #[rv] #[]):=by
   show VR γ (wR T.P (aX fr r) name) _
   rw [hm]
   exact .func rfl rfl (fun i h1 h2=>by
    have:i=0:=by simpa using h1
    subst this
    exact VR.of_flat hfl) (fun i h1=>absurd h1 (by simp))
  refine ⟨(by rw [hop];intro c hc;cases hc),cB.map fun x hx=>hev x (by rw [hop];simp [Op.operands,Call.operands];exact .inr (by simpa using hx)),_,hvr,fun d hd=>?_⟩
  obtain ⟨dst,op,ty,pos,after,guard⟩:=o
  simp only at hop
  subst hop
  have e2:(args.toList.map a.eval).toArray=args.map a.eval:=by apply Array.ext';simp
  rw [e2] at hd
  have hd':d={target:=.fn (.func f0) #[],args:=#[rv]++args.map a.eval}:=by
   have:(Deferred.ofValue (.func (.func f0) #[rv] #[]) (args.map a.eval)).run T.P w=.ok {target:=.fn (.func f0) #[],args:=#[rv]++args.map a.eval} w:=rfl
   rw [this] at hd
   cases hd
   rfl
  subst hd'
  have hmr:=gT T.P hp w
  have h1:(resolve a.eval ⟨.invoke r name,args,tys⟩ ty).run T.P w=.ok {target:=.fn (.method name) #[],args:=#[a.eval r]++args.map a.eval} w:=rfl
  refine (eG h1:(do let d ←resolve a.eval ⟨.invoke r name,args,tys⟩ ty;invoke d.target d.args:Sem Next).run T.P w=_).trans ?_
  have h0:(#[a.eval r]++args.map a.eval)[0]?=some (a.eval r):=Pm _ _
  show (invoke (.fn (.method name) #[]) (#[a.eval r]++args.map a.eval)).run T.P w=(callFunc f0 ((#[rv]++args.map a.eval)++#[])).run T.P w
  have h2:invoke (.fn (.method name) #[]) (#[a.eval r]++args.map a.eval)=callMethod (a.eval r) name ((#[a.eval r]++args.map a.eval).extract 1 (#[a.eval r]++args.map a.eval).size):=by
   unfold invoke
   simp only [h0]
  rw [h2]
  rw [hr]
  have e3:(#[Value.iface t x]++args.map a.eval).extract 1 (#[Value.iface t x]++args.map a.eval).size=args.map a.eval:=Pn _ _
  rw [e3]
  show (do let p ←method ((←program).types.size+Made.depth) t x name;callFunc p.1 (#[p.2]++args.map a.eval):Sem Next).run T.P w=_
  rw [Array.append_empty]
  have hq:(do method ((←program).types.size+Made.depth) t x name:Sem (FuncId × Value)).run T.P w=.ok (f0,rv) w:=hmr
  exact eG hq
theorem CF {o:Op} {it:Operand} (h:dc o=.next it):o=.next it false:=by
 unfold dc at h
 split at h
 ·cases h
 ·cases h
 ·simp only [Kind.next.injEq] at h;rw [h]
 ·cases h
theorem zW {n:Nat} {o:Op} {ρ:Operand→Value} {g:aE} {v:Value} {e:cG} (h:lu T n o ρ g=some (v,e)):∀ c,o ≠ .defer c:=by
 intro c hc
 subst hc
 cases h
theorem Oper.Bh {rd:Option Nat} {P:Program} {o:Oper} {a:Act} {w w':World} {next:Act→World→Prop} {Q:Exit→Act→World→Prop} {v':Value} (hp:∀ c,o.op ≠ .defer c)
  (hr:(execOp a.eval o).run P w=.ok (.value v') w'∨((execOp a.eval o).run P w=.ok .skip w'∧v'=undef)) (h:next (a.put o.dst v') w'):o.wpIn (FW rd) 0 P a w next Q:=by
 refine ⟨fun _ _=>trivial,?_⟩
 have he:o.semAt rd a.eval=execOp a.eval o:=Oper.semAt_plain (FW rd) _ _ hp
 show o.uponIn _ _ _ _ _ _ ((o.semAt rd a.eval).run P w)
 rw [he]
 rcases hr with hr|⟨hr,rfl⟩
 ·rw [hr];exact h
 ·rw [hr];exact h
theorem mX (hT:bO T) (hS:bF T rec m) {o:Oper} {st:St} {L:List (Value × Hp)} (ho:fh T rec o.op st=some L) {γ:Gm} {w:World} {a:Act} {rd:Option Nat} {N:Nat}
  (hfr:uu γ st.fr a.tmps) (hw:Wf st.hp) (hh:HR γ st.hp.get w) (hops:o.op.operands.toList.all mO=true) (hf:cP γ st.hp.n N) (hN:∀ p ∈ L,p.2.n≤N) {next:Act→World→Prop} {Q:Exit→Act→World→Prop}
  (hnext:∀ v hp v' γ' w',(v,hp) ∈ L→VR γ' v v'→Step γ st.hp w γ' hp w'→next (a.put o.dst v') w'):o.wpIn (FW rd) 0 T.P a w next Q:=by
 have hev:∀ x ∈ o.op.operands,VR γ (aX st.fr x) (a.eval x):=fun x hx=>vz hfr (List.all_eq_true.1 hops x (by simpa using hx))
 unfold fh at ho
 split at ho
 ·rename_i f as hk
  split at ho
  ·rename_i g hg
   obtain ⟨hnd,ha,vf',hv,hx⟩:=wD hk hev hg w
   cases hr:rec (lz st.hp g) with
   | none=>rw [hr] at ho;cases ho
   | some R =>
    rw [hr] at ho
    simp only at ho
    have hmem:∀ r ∈ R,∃ v hp,r=.ret v hp∧(v,hp) ∈ L:=by
     intro r hrm
     obtain ⟨Ma,h1,h2⟩:=bA ho r hrm
     cases r with
     | ret v hp=>simp only [valOf,Option.some.injEq] at h1;subst h1;exact ⟨v,hp,rfl,h2 _ (by simp)⟩
     | out e s=>cases h1
    have hN':∀ r ∈ R,r.hp.n≤N:=fun r hrm=>by
     obtain ⟨v,hp,rfl,hm⟩:=hmem r hrm
     exact hN _ hm
    have hd:∃ d,(Deferred.ofValue vf' (as.map a.eval).toArray).run T.P w=.ok d w:=by
     cases g with
     | fn f' as' =>
      obtain ⟨fs,cs,e,_⟩:=jd hg
      rw [e] at hv
      obtain ⟨fs',cs',e',_,_⟩:=hv.kL
      rw [e']
      exact ⟨_,rfl⟩
     | yield l as' =>
      obtain ⟨fs,cs,e,_⟩:=lK hg
      rw [e] at hv
      obtain ⟨_,b,e',_⟩:=hv.qU
      rw [e']
      exact ⟨_,rfl⟩
    obtain ⟨d,hd⟩:=hd
    have hback:∀ e w',rG γ st.hp w R e w'→(match e with
      | .returned v=>next (a.put o.dst v) w'
      | .panicked chain=>Q (.panic chain) a w'
      | .outgrown=>LetsOut Q):=by
     intro e w' ⟨v,hp,v',γ',hm,he,hv',hs⟩
     subst he
     obtain ⟨v0,hp0,e0,hm0⟩:=hmem _ hm
     cases e0
     exact hnext v hp v' γ' w' hm0 hv' hs
    refine ⟨fun _ _=>trivial,?_⟩
    have he:o.semAt rd a.eval=execOp a.eval o:=Oper.semAt_plain (FW rd) _ _ hnd
    show o.uponIn _ _ _ _ _ _ ((o.semAt rd a.eval).run T.P w)
    rw [he]
    have hx:=hx d hd
    rw [hx]
    rcases xx hS hg hv ha hr hw hh hf hN' hd with ⟨f',as',h1,h2⟩|⟨l,f',tm,asg,bd,h1,h2⟩
    ·rw [h1]
     refine ⟨fun h=>Bool.noConfusion h,?_⟩
     exact CallsIn.mono (F:=FW none) h2 fun e w' he=>by
      have:=hback e w' he
      cases e <;> exact this
    ·rw [h1]
     refine ⟨fun h=>Bool.noConfusion h,?_⟩
     exact RoundIn.mono (F:=FW none) h2 fun e w' he=>by
      have:=hback e w' he
      cases e <;> exact this
  ·cases ho
 ·rename_i it hk
  have hop:=CF hk
  simp only [Option.map_eq_some_iff] at ho
  obtain ⟨M,hM,rfl⟩:=ho
  obtain ⟨v,e,hm,hg⟩:=El (T:=T) (n:=st.hp.n) (ty:=o.type) hh hM (hev it (by rw [hop];simp [Op.operands]))
  obtain ⟨v',w',γ',h1,h2,h3⟩:=hg.step
  refine Oper.Bh (w':=w') (v':=v') (by rw [hop];intro c hc;cases hc) ?_ (hnext v _ v' γ' w' (List.mem_map.2 ⟨(v,e),hm,rfl⟩) h2 h3)
  obtain ⟨dst,op,ty,pos,after,guard⟩:=o
  simp only at hop
  subst hop
  exact h1
 ·split at ho
  ·rename_i v e hop
   simp only [Option.some.injEq] at ho
   subst ho
   have hn:e.news=true→γ.loc st.hp.n=none:=fun he=>hf _ (Nat.le_refl _) (by
    have:=hN (v,st.hp.app e) (by simp)
    simp only [qi,he,if_true] at this
    omega)
   obtain ⟨v',w',γ',h1,h2,h3⟩:=(w7 (n:=st.hp.n) hT hh hn hop hev).step
   exact Oper.Bh (w':=w') (v':=v') (zW hop) h1 (hnext v _ v' γ' w' (by simp) h2 h3)
  ·cases ho
theorem Good.le {β:Type} {H:Hp} {f:β→Hp} {M:List β} (h:Good H f M) {N:Nat} (hN:∀ b ∈ M,(f b).n≤N):H.n≤N:=by
 obtain ⟨h1,h2⟩:=h
 cases M with
 | nil=>exact absurd rfl h1
 | cons b l=>exact Nat.le_trans (h2 b (by simp)).n (hN b (by simp))
theorem Pre.put {γ γ':Gm} {st:St} {a:Act} {w w':World} {rd:Option Nat} {N0:NB} (h:Pre γ st a w rd N0) {hp:Hp} {v v':Value} {dst:Option Tmp} (hv:VR γ' v v') (hs:Step γ st.hp w γ' hp w')
  (hd:∀ d,dst=some d→d < a.tmps.size) (hk:dL st.hp hp):Pre γ' ⟨dR st.fr dst v,hp,st.rd⟩ (a.put dst v') w' rd N0 :=
 ⟨(h.fr.mono hs.le).put hv hd,hs.hr,h.rd,by rw [put_defers];exact h.df.step hs,hk.wf h.wf,fun b hb=>let ⟨l,h1,h2⟩:=h.lp b hb;⟨l,hs.le.loc _ _ h1,hk.loop h.wf l h2⟩⟩
def cN (n:Nat) (o:Oper):Bool:=o.op.operands.toList.all mO && (match o.dst with|some d=>Nat.blt d n|none=>true)
theorem gU {n:Nat} {o:Oper} (h:cN n o=true):∀ d,o.dst=some d→d < n:=by
 intro d hd
 simp only [cN,Bool.and_eq_true,hd] at h
 exact Nat.le_of_ble_eq_true h.2
theorem zk (hT:bO T) (hK:aO rec) (hS:bF T rec m) (ops:Array Oper) {γ0:Gm} {H0:Hp} {w0:World} {sz:Nat} {rd:Option Nat} {N0:NB} {N:Nat} {Lb:List (Exit × St)} :
  ∀ (l:List Oper) (st:St) (L:List St),bL T rec ops.toList l st=some L→∀ γ a w,Pre γ st a w rd N0→a.tmps.size=sz→Step γ0 H0 w0 γ st.hp w→l.all (cN sz)=true→cP γ st.hp.n N →
   (∀ s ∈ L,s.hp.n≤N)→(∀ s ∈ L,(Exit.normal,s) ∈ Lb)→wpListIn (FW rd) 0 T.P ops (kK γ0 H0 w0 sz rd N0 Lb) l a w:=by
 intro l
 induction l with
 | nil =>
  intro st L h γ a w hp hsz hs _ _ _ hb
  rw [i9] at h
  cases h
  exact ⟨_,hb st (by simp),γ,rfl,hp,hsz,hs⟩
 | cons o l ih =>
  intro st L h γ a w hp hsz hs hok hf hN hb
  rw [dP] at h
  simp only [List.all_cons,Bool.and_eq_true] at hok
  have hdst:∀ d,o.dst=some d→d < a.tmps.size:=by rw [hsz];exact gU hok.1
  rw [wpListIn,uD hp.fr]
  cases hg:bx ops.toList st.fr o.guard with
  | false =>
   rw [hg] at h
   simp only [cond_false] at h
   refine ⟨fun _ _=>trivial,?_⟩
   have hr:=Step.refl hp.hr
   exact ih _ L h γ _ w (hp.put (VR.undef γ) hr hdst (.refl _)) ((dF _ _ _).trans hsz) hs hok.2 hf hN hb
  | true =>
   rw [hg] at h
   simp only [cond_true] at h
   simp only [if_true]
   cases ha:fh T rec o.op st with
   | none=>rw [ha] at h;cases h
   | some A =>
    rw [ha] at h
    simp only at h
    have hsub:∀ p ∈ A,∃ M,bL T rec ops.toList l ⟨dR st.fr o.dst p.1,p.2,st.rd⟩=some M∧∀ s ∈ M,s ∈ L:=fun p hpm=>bA h p hpm
    have hle:∀ p ∈ A,p.2.n≤N:=fun p hpm=>by
     obtain ⟨M,h1,h2⟩:=hsub p hpm
     exact Good.le (eA hK _ _ _ _ h1).1 (fun s hsm=>hN s (h2 s hsm))
    have hops:o.op.operands.toList.all mO=true:=by
     have:=hok.1
     simp only [cN,Bool.and_eq_true] at this
     exact this.1
    refine mX hT hS ha hp.fr hp.wf hp.hr hops hf hle fun v hp' v' γ' w' hm hv hst=>?_
    obtain ⟨M,h1,h2⟩:=hsub _ hm
    exact ih _ M h1 γ' _ w' (hp.put hv hst hdst ((mo hK ha).2 _ hm)) ((dF _ _ _).trans hsz) (hs.trans hst) hok.2 (hst.fresh hf) (fun s hsm=>hN s (h2 s hsm)) fun s hsm=>hb s (h2 s hsm)
theorem HR.s9 {γ:Gm} {g:aE} {w:World} (h:HR γ g w) {l b o:Nat} {s:LoopState} {pend:Option Code} {fr:Tr Value} {ps:Array Tmp} {as bd:Code} (hg:g l=some (.loop s pend fr ps as bd)) (hl:γ.loc l=some (b,o)) :
  o=0∧∃ r:Loop,w.heap[b]?=some (.loop r)∧r.state=s∧r.pending=pend∧r.params=ps∧r.assign=as∧r.body=bd ∧
   uu γ fr r.tmps∧codeOk r.tmps.size as=true∧codeOk r.tmps.size bd=true∧(∀ p ∈ ps,p < r.tmps.size):=by
 obtain ⟨h0,_,fn,tm,df',h1,h2,h3,h4,h5⟩:=h.iQ l b o _ hg hl
 exact ⟨h0,_,h1,rfl,rfl,rfl,rfl,rfl,h2,h3,h4,h5⟩
theorem Step.Bi {γ:Gm} {H:Hp} {w:World} (h:HR γ H.get w) {l b:Nat} {s s':LoopState} {pend pend':Option Code} {fr:Tr Value} {ps:Array Tmp} {as bd:Code} (hg:H.get l=some (.loop s pend fr ps as bd)) (hl:γ.loc l=some (b,0))
  {r:Loop} (hr:w.heap[b]?=some (.loop r)):Step γ H w γ (H.put l (.loop s' pend' fr ps as bd)) (w.putObj b (.loop {r with state:=s',pending:=pend'})):=by
 obtain ⟨_,_,fn,tm,df',h1,h2,h3⟩:=h.iQ l b 0 _ hg hl
 rw [hr] at h1
 cases h1
 have hlt:=h.lt _ _ _ hl
 have hoth:∀ i,i ≠ b→(w.putObj b (.loop {state:=s',pending:=pend',fn,tmps:=tm,params:=ps,assign:=as,body:=bd,defers:=df'})).heap[i]?=w.heap[i]?:=fun i hi=>World.putObj_heap_other hi
 have hB:γ.B≤b:=(h.iQ l b 0 _ hg hl).2.1
 refine ⟨Nat.le_refl _,Gm.Le.refl γ,fun _ _=>rfl,?_,?_⟩
 ·rw [Hp.mQ]
  exact h.put hg rfl hl World.putObj_size hoth (.inl rfl) ⟨rfl,hB,fn,tm,df',World.putObj_heap_same hlt,h2,h3⟩
 ·rw [Hp.mQ]
  exact lB.put hg rfl hl rfl rfl rfl World.putObj_size hoth
theorem CG {v:Value} {args:List Value} {f:FuncId} {as:List Value} (h:cC v args=some (.fn f as)) {γ:Gm} {v':Value} (hv:VR γ v v') (args':Array Value) (P:Program) (w:World) :
  ∃ d,(Deferred.ofValue v' args').run P w=.ok d w:=by
 obtain ⟨fs,cs,e,_⟩:=jd h
 rw [e] at hv
 obtain ⟨fs',cs',e',_,_⟩:=hv.kL
 rw [e']
 exact ⟨_,rfl⟩
theorem GN {ps:Array Tmp} {as bd:Code} {_f:Operand} {st:St} {γ:Gm} {w:World} {a:Act} {rd:Option Nat} {N0:NB} (hp:Pre γ st a w rd N0) (h0:N0.n≤w.heap.size) (_hnone:γ.loc st.hp.n=none):∃ (w1:World) (D:Nat) (ds:List Deferred),
  HR γ st.hp.get w1∧w.heap.size≤w1.heap.size∧lB γ st.hp.get w γ st.hp.get w1 ∧
  (∀ fn,(Instr.enterLoop fn a.tmps ps as bd rd).run T.P w=.ok (w1.heap.size,ds) (w1.alloc (.loop {state:=.ready,pending:=none,fn,tmps:=a.tmps,params:=ps,assign:=as,body:=bd,defers:=D}))) ∧
  ∀ (o:Obj) (H1:Hp),Step γ st.hp w (γ.add st.hp.n w1.heap.size 0) H1 (w1.alloc o)→s8 (γ.add st.hp.n w1.heap.size 0) (w1.alloc o) N0 (ds++a.defers):=by
 cases rd with
 | some b =>
  obtain ⟨l,hl,hlp⟩:=hp.lp b rfl
  obtain ⟨r,hr⟩:∃ r,w.heap[b]?=some (.loop r):=by
   cases hg:st.hp.get l with
   | none=>rw [hg] at hlp;cases hlp
   | some x =>
    cases x with
    | loop s pend fr ps as bd =>
     obtain ⟨_,r,h,_⟩:=hp.hr.s9 hg hl
     exact ⟨r,h⟩
    | _=>rw [hg] at hlp;cases hlp
  exact ⟨w,r.defers,[],hp.hr,Nat.le_refl _,.refl _ _ _,fun fn=>run_enterLoop_inner hr fn a.tmps ps as bd,fun o H1 hs=>hp.df.step hs⟩
 | none =>
  let w1:=w.alloc (.deferred (some []))
  have hh1:HR γ st.hp.get w1:=hp.hr.off (by show _≤(w.heap.push _).size;simp) (fun k b o hl=>by
   show (w.heap.push _)[b]?=_
   rw [Array.getElem?_push,if_neg (by have:=hp.hr.lt _ _ _ hl;omega)]) (fun b hb=>by
   show (w.heap.push _)[b]?=_
   rw [Array.getElem?_push,if_neg (by have:=hp.hr.base;omega)])
  have hsz1:w1.heap.size=w.heap.size+1:=by show (w.heap.push _).size=_;simp
  have hu1:lB γ st.hp.get w γ st.hp.get w1:=(lB.refl _ _ _).off rfl rfl rfl (by omega) fun b hb=>by
   show (w.heap.push _)[b]?=_
   rw [Array.getElem?_push,if_neg (by omega)]
  refine ⟨w1,w.heap.size,[{target:=.collected w.heap.size,args:=#[]}],hh1,by omega,hu1,fun fn=>by rw [hsz1];exact run_enterLoop_outer fn a.tmps ps as bd,fun o H1 hs1=>?_⟩
  have hl1:(γ.add st.hp.n w1.heap.size 0).loc st.hp.n=some (w.heap.size+1,0):=by rw [←hsz1];exact Gm.cO _ _ _ _
  obtain ⟨rs,e1,e2,e3⟩:=hp.df.step hs1
  refine ⟨w.heap.size :: rs,by rw [e1];rfl,List.nodup_cons.2 ⟨fun hmem=>?_,e2⟩,fun r hrm=>?_⟩
  ·obtain ⟨rs0,q1,q2,q3⟩:=hp.df
   have hrr:rs0=rs:=by
    have hinj:∀ (l l':List Nat),l.map (fun r=>({target:=.collected r,args:=#[]}:Deferred))=l'.map (fun r=>({target:=.collected r,args:=#[]}:Deferred))→l=l':=by
     intro l
     induction l with
     | nil=>intro l' he;cases l' with
      | nil=>rfl
      | cons=>cases he
     | cons x l ih=>intro l' he;cases l' with
      | nil=>cases he
      | cons y l' =>
       simp only [List.map_cons,List.cons.injEq,Deferred.mk.injEq,Target.collected.injEq,and_true] at he
       rw [he.1,ih l' he.2]
    exact hinj _ _ (List.append_cancel_right (q1.symm.trans e1))
   subst hrr
   have:=(Array.getElem?_eq_some_iff.1 (q3 _ hmem).2.1).1
   omega
  ·rcases List.mem_cons.1 hrm with rfl|hrm
   ·refine ⟨h0,?_,fun k o hl=>?_⟩
    ·show (w1.heap.push _)[w.heap.size]?=_
     rw [Array.getElem?_push,if_neg (by omega)]
     show (w.heap.push _)[w.heap.size]?=_
     simp
    ·by_cases hk:k=st.hp.n
     ·subst hk
      rw [hl1] at hl
      simp at hl
     ·have:=hp.hr.lt k _ o (by rw [←hl];exact (Gm.bV _ _ _ hk).symm)
      omega
   ·exact e3 r hrm
theorem CH (hK:aO rec) (hS:bF T rec m) {f:Operand} {ps:Array Tmp} {as bd:Code} {st:St} {L:List (Exit × St)} (h:oc rec f ps as bd st=some L)
  {γ:Gm} {w:World} {a:Act} {rd:Option Nat} {N0:NB} {N:Nat} (hp:Pre γ st a w rd N0) (hc:codeOk a.tmps.size (.rangeFunc f ps as bd)=true) (hf:cP γ st.hp.n N) (hN:∀ p ∈ L,p.2.hp.n≤N) (h0:N0.n≤w.heap.size) :
  (Code.rangeFunc f ps as bd).wpIn (FW rd) 0 T.P (kK γ st.hp w a.tmps.size rd N0 L) a w:=by
 simp only [codeOk,Bool.and_eq_true,List.all_eq_true] at hc
 obtain ⟨⟨⟨hc1,hc2⟩,hc3⟩,hc4⟩:=hc
 unfold oc at h
 split at h
 ·rename_i g args hg
  cases hr:rec (.call g args (st.hp.push (.loop .ready none st.fr ps as bd))) with
  | none=>rw [hr] at h;cases h
  | some R =>
   rw [hr] at h
   simp only at h
   have hsub:∀ r ∈ R,∃ M,kE st.hp.n st.fr st.rd r=some M∧∀ q ∈ M,q ∈ L:=fun r hrm=>bA h r hrm
   have hNR:∀ r ∈ R,r.hp.n≤N:=by
    intro r hrm
    obtain ⟨M,h1,h2⟩:=hsub r hrm
    obtain ⟨v,hp',s,pend,fr0,ps0,as0,bd0,rfl,_,_,h3⟩:=nr h1
    rcases h3 with ⟨_,rfl⟩|⟨_,rfl⟩|⟨id,_,rfl⟩ <;> exact hN _ (h2 _ (List.mem_singleton_self _))
   have hn1:st.hp.n < N:=by
    have:=Good.le (hK _ _ hr) hNR
    exact this
   have hnone:γ.loc st.hp.n=none:=hf _ (Nat.le_refl _) hn1
   obtain ⟨w1,D,ds,hh1,hsz1,hu1,hent,hdf⟩:=GN (T:=T) (_f:=f) (ps:=ps) (as:=as) (bd:=bd) hp h0 hnone
   refine wpIn_rangeFunc fun fn _=>?_
   let rcd:Loop:={state:=.ready,pending:=none,fn,tmps:=a.tmps,params:=ps,assign:=as,body:=bd,defers:=D}
   let w2:=w1.alloc (.loop rcd)
   let γ1:=γ.add st.hp.n w1.heap.size 0
   have hle:γ.Le γ1:=Gm.oh hnone
   have hh2:HR γ1 (st.hp.push (.loop .ready none st.fr ps as bd)).get w2:=by
    rw [Hp.lI]
    refine hh1.new hnone (obj:=.loop rcd) rfl ⟨rfl,by rw [hle.B];exact hh1.base,fn,a.tmps,D,?_,hp.fr.mono hle,hc3,hc4,fun p hpp=>Nat.le_of_ble_eq_true (hc2 p (by simpa using hpp))⟩
    show (w1.heap.push _)[w1.heap.size]?=_
    simp [rcd]
   have hs1:Step γ st.hp w γ1 (st.hp.push (.loop .ready none st.fr ps as bd)) w2 :=
    ⟨Nat.le_succ _,hle,fun k hk=>Gm.bV _ _ _ (by
     have:(st.hp.push (.loop .ready none st.fr ps as bd)).n=st.hp.n+1:=rfl
     omega),hh2,by
     rw [Hp.lI]
     exact hu1.trans (lB.new (obj:=.loop rcd) rfl rfl rfl rfl)⟩
   have hf1:cP γ1 (st.hp.push (.loop .ready none st.fr ps as bd)).n N:=hs1.fresh hf
   have hl1:γ1.loc st.hp.n=some (w1.heap.size,0):=Gm.cO _ _ _ _
   have hw1:Wf (st.hp.push (.loop .ready none st.fr ps as bd)):=(dL.push _ _).wf hp.wf
   have hv:=(vz hp.fr hc1).mono hle
   have ha:cB γ1 [.func (.yield st.hp.n) #[] #[]] [.func (.yield w1.heap.size) #[] #[]]:=.cons (.yield hl1) (cB.nil _)
   obtain ⟨d,hd⟩:=CG hg hv #[.func (.yield w1.heap.size) #[] #[]] T.P w2
   have hcall:∃ f' as',(invoke d.target d.args).run T.P w2=.ok (.enter f' as') w2∧CallsIn (FW none) 0 T.P f' as' w2 (rG γ1 (st.hp.push (.loop .ready none st.fr ps as bd)) w2 R):=by
    rcases xx hS (g:=.fn g args) hg hv ha hr hw1 hh2 hf1 hNR hd with x|⟨l',f',tm,asg,bd',h1,_⟩
    ·exact x
    ·exfalso
     obtain ⟨fs,cs,e,_⟩:=jd hg
     rw [e] at hv
     obtain ⟨fs',cs',e',_,_⟩:=hv.kL
     rw [e'] at hd
     simp only [Deferred.ofValue] at hd
     cases hd
     obtain ⟨⟨fn',c',q1,q2,q3⟩,_⟩:=hS.call _ _ _ _ hr
     have:=lM q1 q2 q3 (fs'++#[Value.func (.yield w1.heap.size) #[] #[]]++cs') w2
     have h1':(callFunc g (fs'++#[Value.func (.yield w1.heap.size) #[] #[]]++cs')).run T.P w2=_:=h1
     rw [this] at h1'
     cases h1'
   obtain ⟨f',as',hinv,hcl⟩:=hcall
   refine ⟨w1.heap.size,ds,w2,d,w2,f',as',w2,hent fn,?_,fun _ _=>trivial,hinv,fun h=>Bool.noConfusion h,?_⟩
   ·have hres0:resolve a.eval (rangeCall f w1.heap.size) 0=Deferred.ofValue (a.eval f) #[.func (.yield w1.heap.size) #[] #[]]:=by simp [resolve,Act.eval]
    rw [hres0];exact hd
   refine CallsIn.mono (F:=FW none) hcl fun e w3 hR=>?_
   obtain ⟨v,hp',v',γ',hm,rfl,_,hs2⟩:=hR
   obtain ⟨M,h1,h2⟩:=hsub _ hm
   obtain ⟨v0,hp0,s,pend,fr0,ps0,as0,bd0,e0,hget,hbusy,hres⟩:=nr h1
   cases e0
   have hl3:γ'.loc st.hp.n=some (w1.heap.size,0):=hs2.le.loc _ _ hl1
   obtain ⟨_,r,hr1,hr2,hr3,_⟩:=hs2.hr.s9 hget hl3
   have hs3:=Step.Bi (s':=.exhausted) (pend':=pend) hs2.hr hget hl3 hr1
   have hend:=run_endLoop (P:=T.P) hr1 (by rw [hr2];exact hbusy)
   have hsall:=(hs1.trans hs2).trans hs3
   have hwe:w3.putObj w1.heap.size (.loop {r with state:=.exhausted})=w3.putObj w1.heap.size (.loop {r with state:=.exhausted,pending:=pend}):=by rw [←hr3]
   rw [hwe] at hend
   rw [hr3] at hend
   let st':St:=⟨st.fr,hp'.put st.hp.n (.loop .exhausted pend fr0 ps0 as0 bd0),st.rd⟩
   have hkeep:dL st.hp st'.hp:=((dL.push _ _).trans ((hK _ _ hr).2 _ hm)).trans (dL.put hp' _ _ (by rw [hget];simp) (fun _=>rfl))
   have hpre:Pre γ' st' {a with defers:=ds++a.defers} (w3.putObj w1.heap.size (.loop {r with state:=.exhausted,pending:=pend})) rd N0 :=
    ⟨hp.fr.mono hsall.le,hsall.hr,hp.rd,((hdf _ _ hs1).step hs2).step hs3,hkeep.wf hp.wf,fun b hb=>let ⟨l,q1,q2⟩:=hp.lp b hb;⟨l,hsall.le.loc _ _ q1,hkeep.loop hp.wf l q2⟩⟩
   refine ⟨pend,_,hend,?_⟩
   rcases hres with ⟨e,rfl⟩|⟨e,rfl⟩|⟨id,e,rfl⟩
   ·subst e
    exact ⟨_,h2 _ (List.mem_singleton_self _),γ',rfl,hpre,rfl,hsall⟩
   ·subst e
    exact wpIn_ret ⟨_,h2 _ (List.mem_singleton_self _),γ',rfl,hpre,rfl,hsall⟩
   ·subst e
    exact wpIn_exit ⟨_,h2 _ (List.mem_singleton_self _),γ',rfl,hpre,rfl,hsall⟩
 ·cases h
end
end Go.RM
namespace Go.RM
open Go
theorem Ez {F:Fence} {n:Nat} {P:Program} {c:Code} {Q:Exit→Act→World→Prop} {a:Act} {w:World} (h:c.wpIn F n P Q a w) (hq:∀ l a w,¬ Q (.goto l) a w):(Code.scope c).wpIn F n P Q a w:=by
 intro b k cs hro hb hr
 have h0:(lone (b.atR a (.code (.scope c) :: k)) cs w).fenced P F:=fenced_calm hb hr rfl
 have s1:step P (lone (b.atR a (.code (.scope c) :: k)) cs w)=.next (lone (b.atR a (.code c :: .inScope c :: k)) cs w):=step_lone_go (by simp [stepG,stepG.exec,Frame.atR])
 have s2:∀ a w,step P (lone (b.atR a (.inScope c :: k)) cs w)=.next (lone (b.atR a k) cs w):=fun a w=>step_lone_go (by simp [stepG,stepG.exec,Frame.atR])
 obtain ⟨e,a₁,w₁,hq1,harr⟩:=h b (.inScope c :: k) cs hro hb hr
 cases e with
 | normal=>exact ⟨.normal,a₁,w₁,hq1,.head h0 s1 (StepsIn.trans harr (.one (fenced_calm hb hr rfl) (s2 a₁ w₁)))⟩
 | exit id =>
  have hx:exitTo id (.inScope c :: k)=exitTo id k:=by simp [exitTo]
  exact ⟨.exit id,a₁,w₁,hq1,fun k' hk=>.head h0 s1 (harr.1 k' (by rw [hx];exact hk)),fun hr' hk=>let ⟨k₁,h1,h2⟩:=harr.2 hr' (by rw [hx];exact hk);⟨k₁,h1,.head h0 s1 h2⟩⟩
 | goto l=>exact absurd hq1 (hq l a₁ w₁)
 | ret=>exact ⟨_,a₁,w₁,hq1,.of_steps (.one h0 s1) harr⟩
 | panic ch=>exact ⟨_,a₁,w₁,hq1,.of_steps (.one h0 s1) harr⟩
 | outgrown=>exact ⟨_,a₁,w₁,hq1,.of_steps (.one h0 s1) harr⟩
section
variable {T : bM} {rec : pR → Option (List fQ)} {m : Nat}
theorem kM (hT:bO T) (hK:aO rec) (hS:bF T rec m) (hD:uE T rec):∀ (c:Code) (st:St) (L:List (Exit × St)),bN T rec c st=some L →
  ∀ {γ:Gm} {w:World} {a:Act} {rd:Option Nat} {N0:NB} {N:Nat},Pre γ st a w rd N0→codeOk a.tmps.size c=true→cP γ st.hp.n N→(∀ p ∈ L,p.2.hp.n≤N)→N0.n≤w.heap.size →
  c.wpIn (FW rd) 0 T.P (kK γ st.hp w a.tmps.size rd N0 L) a w:=by
 intro c
 induction c with
 | skip =>
  intro st L h γ w a rd N0 N hp hc hf hN h0
  rw [xh] at h
  cases h
  exact wpIn_skip ⟨_,List.mem_singleton_self _,γ,rfl,hp,rfl,Step.refl hp.hr⟩
 | label l =>
  intro st L h γ w a rd N0 N hp hc hf hN h0
  rw [vo] at h
  cases h
  exact wpIn_label ⟨_,List.mem_singleton_self _,γ,rfl,hp,rfl,Step.refl hp.hr⟩
 | exit id =>
  intro st L h γ w a rd N0 N hp hc hf hN h0
  rw [xp] at h
  cases h
  exact wpIn_exit ⟨_,List.mem_singleton_self _,γ,rfl,hp,rfl,Step.refl hp.hr⟩
 | ret =>
  intro st L h γ w a rd N0 N hp hc hf hN h0
  rw [zV] at h
  cases h
  exact wpIn_ret ⟨_,List.mem_singleton_self _,γ,rfl,hp,rfl,Step.refl hp.hr⟩
 | region id ops draw =>
  intro st L h γ w a rd N0 N hp hc hf hN h0
  rw [gh] at h
  cases draw with
  | false =>
   simp only [cond_false] at h
   cases hx:bL T rec ops.toList ops.toList st with
   | none=>rw [hx] at h;cases h
   | some M =>
    rw [hx] at h
    simp only [Option.some.injEq] at h
    subst h
    simp only [codeOk,Bool.and_eq_true] at hc
    exact wpIn_region_list (zk hT hK hS ops ops.toList st M hx γ a w hp rfl (Step.refl hp.hr) hc.2 hf (fun s hs=>hN (.normal,s) (List.mem_map.2 ⟨s,hs,rfl⟩)) fun s hs=>List.mem_map.2 ⟨s,hs,rfl⟩)
  | true =>
   simp only [cond_true] at h
   cases hx:cS T rec ops st with
   | none=>rw [hx] at h;cases h
   | some M =>
    rw [hx] at h
    simp only [Option.some.injEq] at h
    subst h
    exact hD id ops st M hx γ w a rd N0 N hp hc hf fun s hs=>hN (.normal,s) (List.mem_map.2 ⟨s,hs,rfl⟩)
 | seq x y ihx ihy =>
  intro st L h γ w a rd N0 N hp hc hf hN h0
  simp only [codeOk,Bool.and_eq_true] at hc
  rw [nK] at h
  cases hx:bN T rec x st with
  | none=>rw [hx] at h;cases h
  | some A =>
   rw [hx] at h
   simp only at h
   have hsub:∀ p ∈ A,∃ M,v5 (bN T rec y) p=some M∧∀ q ∈ M,q ∈ L:=fun p hpm=>bA h p hpm
   have hA:∀ p ∈ A,p.2.hp.n≤N:=by
    intro p hpm
    obtain ⟨M,h1,h2⟩:=hsub p hpm
    obtain ⟨e,s⟩:=p
    unfold v5 at h1
    cases e with
    | normal=>exact Good.le (iV hK y s M h1) fun q hq=>hN q (h2 q hq)
    | _=>simp only [Option.some.injEq] at h1;subst h1;exact hN _ (h2 _ (List.mem_singleton_self _))
   refine wpIn_seq (Go.wpIn_mono (ihx st A hx hp hc.1 hf hA h0) fun e a1 w1 hq=>?_)
   obtain ⟨p,hpm,γ1,he,hp1,hsz,hs⟩:=hq
   obtain ⟨M,h1,h2⟩:=hsub p hpm
   obtain ⟨e',s⟩:=p
   simp only at he hp1 hs
   subst he
   unfold v5 at h1
   cases e with
   | normal =>
    refine Go.wpIn_mono (ihy s M h1 hp1 (by rw [hsz];exact hc.2) (hs.fresh hf) (fun q hq=>hN q (h2 q hq)) (Nat.le_trans h0 hs.iJ.size)) fun e a2 w2 hq=>?_
    rw [hsz] at hq
    exact hq.trans hs h2
   | _=>simp only [Option.some.injEq] at h1;subst h1;exact ⟨_,h2 _ (List.mem_singleton_self _),γ1,rfl,hp1,hsz,hs⟩
 | cond x y z ihy ihz =>
  intro st L h γ w a rd N0 N hp hc hf hN h0
  simp only [codeOk,Bool.and_eq_true] at hc
  rw [jP] at h
  cases hv:aX st.fr x with
  | bool t =>
   rw [hv] at h
   simp only at h
   have he:=(vz hp.fr hc.1.1)
   rw [hv] at he
   refine wpIn_cond (he.cW rfl) ?_
   cases t with
   | true=>exact ihy st L h hp hc.1.2 hf hN h0
   | false=>exact ihz st L h hp hc.2 hf hN h0
  | _=>rw [hv] at h;cases h
 | block id x ih =>
  intro st L h γ w a rd N0 N hp hc hf hN h0
  rw [kJ] at h
  cases hx:bN T rec x st with
  | none=>rw [hx] at h;cases h
  | some A =>
   rw [hx] at h
   simp only [Option.some.injEq] at h
   subst h
   have hhp:∀ p:Exit × St,(iq id p).2=p.2:=by
    intro p
    obtain ⟨e,s⟩:=p
    unfold iq
    cases e <;> rfl
   refine wpIn_block (Go.wpIn_mono (ih st A hx hp hc hf (fun p hpm=>by
    have:=hN _ (List.mem_map.2 ⟨p,hpm,rfl⟩)
    rw [hhp] at this
    exact this) h0) fun e a1 w1 hq=>?_)
   obtain ⟨p,hpm,γ1,he,hp1,hsz,hs⟩:=hq
   have hm:iq id p ∈ A.map (iq id):=List.mem_map.2 ⟨p,hpm,rfl⟩
   obtain ⟨e',s⟩:=p
   simp only at he hp1 hs
   subst he
   cases e with
   | exit i =>
    show if i=id then _ else _
    by_cases hi:i=id
    ·subst hi
     rw [if_pos rfl]
     have hb:iq i (.exit i,s)=(.normal,s):=by unfold iq;simp
     rw [hb] at hm
     exact ⟨_,hm,γ1,rfl,hp1,hsz,hs⟩
    ·rw [if_neg hi]
     have hb:iq id (.exit i,s)=(.exit i,s):=by
      unfold iq
      have:Nat.beq i id=false:=by rw [Tr.beq_eq];simpa using hi
      simp only [this,cond_false]
     rw [hb] at hm
     exact ⟨_,hm,γ1,rfl,hp1,hsz,hs⟩
   | _=>exact ⟨_,hm,γ1,rfl,hp1,hsz,hs⟩
 | loop x ih =>
  intro st L h γ w a rd N0 N hp hc hf hN h0
  rw [oA] at h
  cases hx:rec (.loop x st) with
  | none=>rw [hx] at h;cases h
  | some R =>
   rw [hx] at h
   simp only at h
   have hm:∀ r ∈ R,∃ p ∈ L,r=.out p.1 p.2:=by
    intro r hrm
    obtain ⟨M,h1,h2⟩:=bA h r hrm
    cases r with
    | ret v hp=>cases h1
    | out e s=>simp only [Ch,Option.some.injEq] at h1;subst h1;exact ⟨(e,s),h2 _ (List.mem_singleton_self _),rfl⟩
   exact wpIn_loop_rounds m (hS.loop x st R hx L hm γ w a rd N0 N hp hc hf (fun r hrm=>by
    obtain ⟨p,h1,rfl⟩:=hm r hrm
    exact hN p h1) h0)
 | rangeFunc f ps as bd _ _ =>
  intro st L h γ w a rd N0 N hp hc hf hN h0
  rw [mS] at h
  exact CH hK hS h hp hc hf hN h0
 | goto l=>intro st L h;rw [xq] at h;cases h
 | scope c ih =>
  intro st L h γ w a rd N0 N hp hc hf hN h0
  rw [mT] at h
  obtain ⟨h1,h2⟩:=qc h
  refine Ez (ih st L h1 hp hc hf hN h0) fun l a w hq=>?_
  obtain ⟨p,hpm,_,he,_⟩:=hq
  exact h2 p hpm l he.symm
 | refuse y=>intro st L h;rw [s0] at h;cases h
theorem Bj {P:Program} {fn:Func} {tmps:Array Value} {R:Ending→World→Prop} {γ:Gm}:∀ (rs:List Nat) (w:World),rs.Nodup →
  (∀ r ∈ rs,w.heap[r]?=some (.deferred (some []))∧∀ k o,γ.loc k ≠ some (r,o)) →
  (∀ w',w'.os=w.os→w'.tape=w.tape→w'.output=w.output→w'.heap.size=w.heap.size→(∀ i,i ∉ rs→w'.heap[i]?=w.heap[i]?)→LeavesIn (FW none) 0 P fn tmps R [] .returning w') →
  LeavesInM (FW none) 0 P fn tmps R (rs.map fun r=>{target:=.collected r,args:=#[]}) .returning w:=by
 intro rs
 induction rs with
 | nil=>intro w _ _ h;exact h w rfl rfl rfl rfl (fun _ _=>rfl)
 | cons r rs ih =>
  intro w hnd hr h
  refine ⟨by simp,.inl ⟨r,w.putObj r (.deferred none),rfl,run_takeDeferred (hr r (by simp)).1,?_⟩⟩
  have hnd':=List.nodup_cons.1 hnd
  refine ih _ hnd'.2 (fun r' hr'=>?_) fun w' h1 h2 h3 h4 h5=>?_
  ·have hne:r' ≠ r:=fun e=>by subst e;exact hnd'.1 hr'
   rw [World.putObj_heap_other hne]
   exact hr r' (List.mem_cons_of_mem _ hr')
  ·refine h w' h1 h2 h3 (h4.trans World.putObj_size) fun i hi=>?_
   have h6:i ≠ r∧i ∉ rs:=⟨fun e=>hi (by rw [e];simp),fun e=>hi (List.mem_cons_of_mem _ e)⟩
   rw [h5 i h6.2,World.putObj_heap_other h6.1]
end
end Go.RM
namespace Go.RM
open Go
def Nn (γ:Gm):kF→Exit→Prop
 | .e x,e=>e=x
 | .fG v,e=>∃ v',e=.panic [{v:=v',recovered:=false}]∧VR γ v v'
def gV (γ:Gm) (H:Hp) (w:World) (sz:Nat) (rd:Option Nat) (N0:NB) (L:List (kF × St)) (e:Exit) (a':Act) (w':World):Prop :=
 ∃ p ∈ L,∃ γ',Nn γ' p.1 e∧Pre γ' p.2 a' w' rd N0∧a'.tmps.size=sz∧Step γ H w γ' p.2.hp w'
def CI (γ:Gm) (H:Hp) (w:World) (L:List ey) (e:Ending) (w':World):Prop :=
 (∃ v hp v' γ',ey.ret v hp ∈ L∧e=.returned v'∧VR γ' v v'∧Step γ H w γ' hp w') ∨
  ∃ v hp v' γ',ey.fG v hp ∈ L∧e=.panicked [{v:=v',recovered:=false}]∧VR γ' v v'∧Step γ H w γ' hp w'
theorem gV.trans {γ γ1:Gm} {H H1:Hp} {w w1 w2:World} {sz:Nat} {rd:Option Nat} {N0:NB} {L M:List (kF × St)} {e:Exit} {a:Act}
  (s:Step γ H w γ1 H1 w1) (h:gV γ1 H1 w1 sz rd N0 M e a w2) (hs:∀ p ∈ M,p ∈ L):gV γ H w sz rd N0 L e a w2:=by
 obtain ⟨p,hp,γ',h1,h2,h3,h4⟩:=h
 exact ⟨p,hs p hp,γ',h1,h2,h3,s.trans h4⟩
structure iw (T : bM) (recP : od → Option (List ey)) (m : Nat) : Prop where
  call : ∀ f args hp L, recP (.call f args hp) = some L → (∃ fn c, T.P.funcs[f]? = some fn ∧ (fn.name == "runtime.NumGoroutine") = false ∧ fn.body = some c) ∧ (∀ r ∈ L, (∃ v h, r = .ret v h) ∨ ∃ v h, r = .fG v h) ∧
    ∀ γ w args' N, Wf hp → HR γ hp.get w → cP γ hp.n N → (∀ r ∈ L, r.hp.n ≤ N) → cB γ args args' → CallsIn (FW none) 0 T.P f args'.toArray w (CI γ hp w L)
  loop : ∀ c st Lr, recP (.loop c st) = some Lr → ∀ L, (∀ r ∈ Lr, ∃ p ∈ L, r = .out p.1 p.2) → ∀ γ w a rd N0 N, Pre γ st a w rd N0 → codeOk a.tmps.size c = true → cP γ st.hp.n N → (∀ r ∈ Lr, r.hp.n ≤ N) →
    N0.n ≤ w.heap.size → Code.roundsIn (FW rd) 0 T.P c (gV γ st.hp w a.tmps.size rd N0 L) m a w
theorem Pre.step {γ γ':Gm} {st:St} {a:Act} {w w':World} {rd:Option Nat} {N0:NB} (h:Pre γ st a w rd N0) {hp:Hp} (hs:Step γ st.hp w γ' hp w') (hk:dL st.hp hp):Pre γ' ⟨st.fr,hp,st.rd⟩ a w' rd N0 :=
 ⟨h.fr.mono hs.le,hs.hr,h.rd,h.df.step hs,hk.wf h.wf,fun b hb=>let ⟨l,h1,h2⟩:=h.lp b hb;⟨l,hs.le.loc _ _ h1,hk.loop h.wf l h2⟩⟩
theorem VR.GO {γ:Gm} {t:TypeId} {x v:Value} (h:VR γ (.iface t x) v):v=.iface t x:=by
 cases h with
 | flat=>rfl
section
variable {T : bM} {rec : pR → Option (List fQ)} {recP : od → Option (List ey)} {m mp : Nat}
theorem ta {o:Op} {st:St} {g:FuncId} {as:List Value} (h:oe T o st=some (g,as)):∃ f args,dc o=.call f args∧cC (nG T.P st.fr f) (args.map (aX st.fr))=some (.fn g as):=by
 unfold oe at h
 split at h
 ·rename_i f args hk
  split at h
  ·rename_i g' as' hg
   split at h
   ·cases h
    exact ⟨f,args,hk,hg⟩
   ·cases h
  ·cases h
 ·cases h
theorem GP (hP:iw T recP mp) {γ:Gm} {H:Hp} {w:World} {v v':Value} {args args':List Value} {g:FuncId} {as:List Value} {L:List ey} {N:Nat} (hg:cC v args=some (.fn g as)) (hv:VR γ v v') (ha:cB γ args args')
  (hr:recP (.call g as H)=some L) (hw:Wf H) (hh:HR γ H.get w) (hf:cP γ H.n N) (hN:∀ r ∈ L,r.hp.n≤N) :
  ∃ d,(Deferred.ofValue v' args'.toArray).run T.P w=.ok d w∧∃ as',(invoke d.target d.args).run T.P w=.ok (.enter g as') w∧CallsIn (FW none) 0 T.P g as' w (CI γ H w L):=by
 obtain ⟨fs,cs,rfl,rfl⟩:=jd hg
 obtain ⟨fs',cs',rfl,e1,e2⟩:=hv.kL
 obtain ⟨⟨fn,c,h1,h2,h3⟩,_,hcall⟩:=hP.call _ _ _ _ hr
 refine ⟨{target:=.fn (.func g) cs',args:=fs'++args'.toArray},rfl,fs'++args'.toArray++cs',lM h1 h2 h3 _ w,?_⟩
 have:=hcall γ w (fs'.toList++args'++cs'.toList) N hw hh hf hN ((e1.append ha).append e2)
 have he:(fs'.toList++args'++cs'.toList).toArray=fs'++args'.toArray++cs':=by apply Array.ext';simp
 rw [he] at this
 exact this
theorem GQ {P:Program} {t:TypeId} {x:Value} {w:World}:((do Pure.pure (Next.value (←Instr.panic (.iface t x)))):Sem Next).run P w=.halt (.panic (.iface t x)) w:=rfl
theorem tc (hT:bO T) (hS:bF T rec m) (hP:iw T recP mp) {o:Oper} {st:St} {L:List ey} (ho:fH T rec recP o.op st=some L) {γ:Gm} {w:World} {a:Act} {rd:Option Nat} {N:Nat}
  (hfr:uu γ st.fr a.tmps) (hw:Wf st.hp) (hh:HR γ st.hp.get w) (hops:o.op.operands.toList.all mO=true) (hf:cP γ st.hp.n N) (hN:∀ r ∈ L,r.hp.n≤N) {next:Act→World→Prop} {Q:Exit→Act→World→Prop}
  (hnext:∀ v hp v' γ' w',.ret v hp ∈ L→VR γ' v v'→Step γ st.hp w γ' hp w'→next (a.put o.dst v') w')
  (hpan:∀ v hp v' γ' w',.fG v hp ∈ L→VR γ' v v'→Step γ st.hp w γ' hp w'→Q (.panic [{v:=v',recovered:=false}]) a w'):o.wpIn (FW rd) 0 T.P a w next Q:=by
 have hev:∀ x ∈ o.op.operands,VR γ (aX st.fr x) (a.eval x):=fun x hx=>vz hfr (List.all_eq_true.1 hops x (by simpa using hx))
 rcases vq ho with ⟨x,hx,ho⟩|⟨_,g,as,hg,ho⟩|⟨_,M,hM,rfl⟩
 ·obtain ⟨t,y,hv,rfl⟩:=vp ho
  have hop:o.op=.panic x:=by
   unfold mP at hx
   split at hx
   ·rename_i z hz
    cases hx
    exact hz
   ·cases hx
  have hvx:=hev x (by rw [hop];simp [Op.operands])
  rw [hv] at hvx
  have hax:=hvx.GO
  refine ⟨fun _ _=>trivial,?_⟩
  have he:o.semAt rd a.eval=execOp a.eval o:=Oper.semAt_plain (FW rd) _ _ (by rw [hop];intro c hc;cases hc)
  show o.uponIn _ _ _ _ _ _ ((o.semAt rd a.eval).run T.P w)
  rw [he]
  have hrun:(execOp a.eval o).run T.P w=.halt (.panic (.iface t y)) w:=by
   obtain ⟨dst,op,ty,pos,after,guard⟩:=o
   simp only at hop
   subst hop
   show ((do Pure.pure (Next.value (←Instr.panic (a.eval x)))):Sem Next).run T.P w=_
   rw [hax]
   exact GQ
  rw [hrun]
  exact hpan (aX st.fr x) st.hp (.iface t y) γ w (by simp) (by rw [hv];rw [hax] at hvx;exact hvx) (Step.refl hh)
 ·obtain ⟨f,args,hk,hg⟩:=ta hg
  obtain ⟨hnd,ha,vf',hv,hx⟩:=wD hk hev hg w
  obtain ⟨d,hd,as',h1,h2⟩:=GP hP hg hv ha ho hw hh hf hN
  refine ⟨fun _ _=>trivial,?_⟩
  have he:o.semAt rd a.eval=execOp a.eval o:=Oper.semAt_plain (FW rd) _ _ hnd
  show o.uponIn _ _ _ _ _ _ ((o.semAt rd a.eval).run T.P w)
  rw [he,hx d hd,h1]
  refine ⟨fun h=>Bool.noConfusion h,?_⟩
  refine CallsIn.mono (F:=FW none) h2 fun e w' hq=>?_
  rcases hq with ⟨v,hp,v',γ',hm,rfl,hv',hs⟩|⟨v,hp,v',γ',hm,rfl,hv',hs⟩
  ·exact hnext v hp v' γ' w' hm hv' hs
  ·exact hpan v hp v' γ' w' hm hv' hs
 ·refine mX hT hS hM hfr hw hh hops hf (fun p hp=>hN (.ret p.1 p.2) (List.mem_map.2 ⟨p,hp,rfl⟩)) fun v hp v' γ' w' hm hv hs=>hnext v hp v' γ' w' (List.mem_map.2 ⟨(v,hp),hm,rfl⟩) hv hs
theorem xy (hT:bO T) (hK:aO rec) (hKP:fJ recP) (hS:bF T rec m) (hP:iw T recP mp) (ops:Array Oper) {γ0:Gm} {H0:Hp} {w0:World} {sz:Nat} {rd:Option Nat} {N0:NB} {N:Nat} {Lb:List (kF × St)} :
  ∀ (l:List Oper) (st:St) (L:List (Option Value × St)),aS T rec recP ops.toList l st=some L→∀ γ a w,Pre γ st a w rd N0→a.tmps.size=sz→Step γ0 H0 w0 γ st.hp w→l.all (cN sz)=true→cP γ st.hp.n N →
   (∀ p ∈ L,p.2.hp.n≤N)→(∀ p ∈ L,fR p ∈ Lb)→wpListIn (FW rd) 0 T.P ops (gV γ0 H0 w0 sz rd N0 Lb) l a w:=by
 intro l
 induction l with
 | nil =>
  intro st L h γ a w hp hsz hs _ _ _ hb
  rw [lJ] at h
  cases h
  exact ⟨_,hb (none,st) (by simp),γ,rfl,hp,hsz,hs⟩
 | cons o l ih =>
  intro st L h γ a w hp hsz hs hok hf hN hb
  rw [cT] at h
  simp only [List.all_cons,Bool.and_eq_true] at hok
  have hdst:∀ d,o.dst=some d→d < a.tmps.size:=by rw [hsz];exact gU hok.1
  rw [wpListIn,uD hp.fr]
  cases hg:bx ops.toList st.fr o.guard with
  | false =>
   rw [hg] at h
   simp only [cond_false] at h
   refine ⟨fun _ _=>trivial,?_⟩
   have hr:=Step.refl hp.hr
   exact ih _ L h γ _ w (hp.put (VR.undef γ) hr hdst (.refl _)) ((dF _ _ _).trans hsz) hs hok.2 hf hN hb
  | true =>
   rw [hg] at h
   simp only [cond_true] at h
   simp only [if_true]
   cases ha:fH T rec recP o.op st with
   | none=>rw [ha] at h;cases h
   | some A =>
    rw [ha] at h
    simp only at h
    have hsub:∀ r ∈ A,∃ M,Nk o.dst st (aS T rec recP ops.toList l) r=some M∧∀ s ∈ M,s ∈ L:=fun r hrm=>bA h r hrm
    have hle:∀ r ∈ A,r.hp.n≤N:=fun r hrm=>by
     obtain ⟨M,h1,h2⟩:=hsub r hrm
     rcases qf h1 with ⟨v,h3,rfl,h4⟩|⟨v,h3,rfl,rfl⟩
     ·exact Good.le (iK hK hKP _ _ _ _ h4) fun s hsm=>hN s (h2 s hsm)
     ·exact hN _ (h2 _ (List.mem_singleton_self _))
    have hops:o.op.operands.toList.all mO=true:=by
     have:=hok.1
     simp only [cN,Bool.and_eq_true] at this
     exact this.1
    have hkeep:=qe hK hKP ha
    refine tc hT hS hP ha hp.fr hp.wf hp.hr hops hf hle (fun v hp' v' γ' w' hm hv hst=>?_) fun v hp' v' γ' w' hm hv hst=>?_
    ·obtain ⟨M,h1,h2⟩:=hsub _ hm
     exact ih _ M h1 γ' _ w' (hp.put hv hst hdst (hkeep.2 _ hm)) ((dF _ _ _).trans hsz) (hs.trans hst) hok.2 (hst.fresh hf) (fun s hsm=>hN s (h2 s hsm)) fun s hsm=>hb s (h2 s hsm)
    ·obtain ⟨M,h1,h2⟩:=hsub _ hm
     cases h1
     exact ⟨_,hb _ (h2 _ (List.mem_singleton_self _)),γ',⟨v',rfl,hv⟩,hp.step hst (hkeep.2 _ hm),hsz,hs.trans hst⟩
def jT (T:bM) (rec:pR→Option (List fQ)):Prop :=
 ∀ (recP:od→Option (List ey)) (mp:Nat),fJ recP→iw T recP mp→∀ id ops st L,di T rec recP ops st=some L→∀ γ w a rd N0 N,Pre γ st a w rd N0→codeOk a.tmps.size (.region id ops true)=true→cP γ st.hp.n N→(∀ p ∈ L,p.2.hp.n≤N) →
  (Code.region id ops true).wpIn (FW rd) 0 T.P (gV γ st.hp w a.tmps.size rd N0 (L.map fR)) a w
def jU (T:bM) (rec:pR→Option (List fQ)):Prop:=uE T rec∧jT T rec
theorem oD (hT:bO T) (hK:aO rec) (hKP:fJ recP) (hS:bF T rec m) (hP:iw T recP mp) (hD:jT T rec):∀ (c:Code) (st:St) (L:List (kF × St)),cq T rec recP c st=some L →
  ∀ {γ:Gm} {w:World} {a:Act} {rd:Option Nat} {N0:NB} {N:Nat},Pre γ st a w rd N0→codeOk a.tmps.size c=true→cP γ st.hp.n N→(∀ p ∈ L,p.2.hp.n≤N)→N0.n≤w.heap.size →
  c.wpIn (FW rd) 0 T.P (gV γ st.hp w a.tmps.size rd N0 L) a w:=by
 intro c
 induction c with
 | skip =>
  intro st L h γ w a rd N0 N hp hc hf hN h0
  cases h
  exact wpIn_skip ⟨_,List.mem_singleton_self _,γ,rfl,hp,rfl,Step.refl hp.hr⟩
 | label l =>
  intro st L h γ w a rd N0 N hp hc hf hN h0
  cases h
  exact wpIn_label ⟨_,List.mem_singleton_self _,γ,rfl,hp,rfl,Step.refl hp.hr⟩
 | exit id =>
  intro st L h γ w a rd N0 N hp hc hf hN h0
  cases h
  exact wpIn_exit ⟨_,List.mem_singleton_self _,γ,rfl,hp,rfl,Step.refl hp.hr⟩
 | ret =>
  intro st L h γ w a rd N0 N hp hc hf hN h0
  cases h
  exact wpIn_ret ⟨_,List.mem_singleton_self _,γ,rfl,hp,rfl,Step.refl hp.hr⟩
 | region id ops draw =>
  intro st L h γ w a rd N0 N hp hc hf hN h0
  rw [cU] at h
  cases draw with
  | false =>
   simp only [cond_false] at h
   cases hx:aS T rec recP ops.toList ops.toList st with
   | none=>rw [hx] at h;cases h
   | some M =>
    rw [hx] at h
    simp only [Option.some.injEq] at h
    subst h
    simp only [codeOk,Bool.and_eq_true] at hc
    exact wpIn_region_list (xy hT hK hKP hS hP ops ops.toList st M hx γ a w hp rfl (Step.refl hp.hr) hc.2 hf (fun s hs=>by
     have:=hN (fR s) (List.mem_map.2 ⟨s,hs,rfl⟩)
     rw [s5] at this
     exact this) fun s hs=>List.mem_map.2 ⟨s,hs,rfl⟩)
  | true =>
   simp only [cond_true] at h
   cases hx:di T rec recP ops st with
   | none=>rw [hx] at h;cases h
   | some M =>
    rw [hx] at h
    simp only [Option.some.injEq] at h
    subst h
    exact hD recP mp hKP hP id ops st M hx γ w a rd N0 N hp hc hf fun s hs=>by
     have:=hN (fR s) (List.mem_map.2 ⟨s,hs,rfl⟩)
     rw [s5] at this
     exact this
 | seq x y ihx ihy =>
  intro st L h γ w a rd N0 N hp hc hf hN h0
  simp only [codeOk,Bool.and_eq_true] at hc
  rw [jR] at h
  cases hx:cq T rec recP x st with
  | none=>rw [hx] at h;cases h
  | some A =>
   rw [hx] at h
   simp only at h
   have hsub:∀ p ∈ A,∃ M,sO (cq T rec recP y) p=some M∧∀ q ∈ M,q ∈ L:=fun p hpm=>bA h p hpm
   have hA:∀ p ∈ A,p.2.hp.n≤N:=by
    intro p hpm
    obtain ⟨M,h1,h2⟩:=hsub p hpm
    rcases oC h1 with ⟨_,h3⟩|⟨_,rfl⟩
    ·exact Good.le (jc hK hKP y p.2 M h3) fun q hq=>hN q (h2 q hq)
    ·exact hN _ (h2 _ (List.mem_singleton_self _))
   refine wpIn_seq (Go.wpIn_mono (ihx st A hx hp hc.1 hf hA h0) fun e a1 w1 hq=>?_)
   obtain ⟨p,hpm,γ1,he,hp1,hsz,hs⟩:=hq
   obtain ⟨M,h1,h2⟩:=hsub p hpm
   rcases oC h1 with ⟨h3,h4⟩|⟨h3,rfl⟩
   ·rw [h3] at he
    obtain rfl:e=.normal:=he
    refine Go.wpIn_mono (ihy p.2 M h4 hp1 (by rw [hsz];exact hc.2) (hs.fresh hf) (fun q hq=>hN q (h2 q hq)) (Nat.le_trans h0 hs.iJ.size)) fun e a2 w2 hq=>?_
    rw [hsz] at hq
    exact hq.trans hs h2
   ·have hfin:gV γ st.hp w a.tmps.size rd N0 L e a1 w1:=⟨p,h2 _ (List.mem_singleton_self _),γ1,he,hp1,hsz,hs⟩
    cases e with
    | normal =>
     exfalso
     obtain ⟨x,s⟩:=p
     cases x with
     | e z =>
      have he:Exit.normal=z:=he
      subst he
      exact h3 rfl
     | fG v =>
      obtain ⟨v',he,_⟩:=he
      cases he
    | _=>exact hfin
 | cond x y z ihy ihz =>
  intro st L h γ w a rd N0 N hp hc hf hN h0
  simp only [codeOk,Bool.and_eq_true] at hc
  rw [jb] at h
  cases hv:aX st.fr x with
  | bool t =>
   rw [hv] at h
   simp only at h
   have he:=(vz hp.fr hc.1.1)
   rw [hv] at he
   refine wpIn_cond (he.cW rfl) ?_
   cases t with
   | true=>exact ihy st L h hp hc.1.2 hf hN h0
   | false=>exact ihz st L h hp hc.2 hf hN h0
  | _=>rw [hv] at h;cases h
 | block id x ih =>
  intro st L h γ w a rd N0 N hp hc hf hN h0
  rw [jy] at h
  cases hx:cq T rec recP x st with
  | none=>rw [hx] at h;cases h
  | some A =>
   rw [hx] at h
   simp only [Option.some.injEq] at h
   subst h
   refine wpIn_block (Go.wpIn_mono (ih st A hx hp hc hf (fun p hpm=>by
    have:=hN _ (List.mem_map.2 ⟨p,hpm,rfl⟩)
    rw [vr] at this
    exact this) h0) fun e a1 w1 hq=>?_)
   obtain ⟨p,hpm,γ1,he,hp1,hsz,hs⟩:=hq
   have hm:gw id p ∈ A.map (gw id):=List.mem_map.2 ⟨p,hpm,rfl⟩
   obtain ⟨x',s⟩:=p
   cases x' with
   | fG v =>
    obtain ⟨v',rfl,hv⟩:=he
    exact ⟨(.fG v,s),hm,γ1,⟨v',rfl,hv⟩,hp1,hsz,hs⟩
   | e z =>
    obtain rfl:e=z:=he
    cases e with
    | exit i =>
     show if i=id then _ else _
     by_cases hi:i=id
     ·subst hi
      rw [if_pos rfl]
      have hb:gw i (.e (.exit i),s)=(.e .normal,s):=by unfold gw;simp
      rw [hb] at hm
      exact ⟨_,hm,γ1,rfl,hp1,hsz,hs⟩
     ·rw [if_neg hi]
      have hb:gw id (.e (.exit i),s)=(.e (.exit i),s):=by
       unfold gw
       have:Nat.beq i id=false:=by rw [Tr.beq_eq];simpa using hi
       simp only [this,cond_false]
      rw [hb] at hm
      exact ⟨_,hm,γ1,rfl,hp1,hsz,hs⟩
    | _=>exact ⟨_,hm,γ1,rfl,hp1,hsz,hs⟩
 | loop x ih =>
  intro st L h γ w a rd N0 N hp hc hf hN h0
  rw [mU] at h
  cases hx:recP (.loop x st) with
  | none=>rw [hx] at h;cases h
  | some R =>
   rw [hx] at h
   simp only at h
   have hm:∀ r ∈ R,∃ p ∈ L,r=.out p.1 p.2:=by
    intro r hrm
    obtain ⟨M,h1,h2⟩:=bA h r hrm
    obtain ⟨z,s,rfl,rfl⟩:=vt h1
    exact ⟨(z,s),h2 _ (List.mem_singleton_self _),rfl⟩
   exact wpIn_loop_rounds mp (hP.loop x st R hx L hm γ w a rd N0 N hp hc hf (fun r hrm=>by
    obtain ⟨p,h1,rfl⟩:=hm r hrm
    exact hN p h1) h0)
 | rangeFunc f ps as bd _ _=>intro st L h;cases h
 | goto l=>intro st L h;cases h
 | scope c ih=>intro st L h;cases h
 | refuse y=>intro st L h;cases h
theorem kz {P:Program} {fn:Func} {tmps:Array Value} {R:Ending→World→Prop} {γ:Gm} {u:FrameMode} {ds:List Deferred} (hu:u ≠ .run):∀ (rs:List Nat) (w:World),rs.Nodup →
  (∀ r ∈ rs,w.heap[r]?=some (.deferred (some []))∧∀ k o,γ.loc k ≠ some (r,o)) →
  (∀ w',w'.os=w.os→w'.tape=w.tape→w'.output=w.output→w'.heap.size=w.heap.size→(∀ i,i ∉ rs→w'.heap[i]?=w.heap[i]?)→LeavesInM (FW none) 0 P fn tmps R ds u w') →
  LeavesInM (FW none) 0 P fn tmps R (rs.map (fun r=>{target:=.collected r,args:=#[]})++ds) u w:=by
 intro rs
 induction rs with
 | nil=>intro w _ _ h;exact h w rfl rfl rfl rfl (fun _ _=>rfl)
 | cons r rs ih =>
  intro w hnd hr h
  refine ⟨hu,.inl ⟨r,w.putObj r (.deferred none),rfl,run_takeDeferred (hr r (by simp)).1,?_⟩⟩
  have hnd':=List.nodup_cons.1 hnd
  refine ih _ hnd'.2 (fun r' hr'=>?_) fun w' h1 h2 h3 h4 h5=>?_
  ·have hne:r' ≠ r:=fun e=>by subst e;exact hnd'.1 hr'
   rw [World.putObj_heap_other hne]
   exact hr r' (List.mem_cons_of_mem _ hr')
  ·refine h w' h1 h2 h3 (h4.trans World.putObj_size) fun i hi=>?_
   have h6:i ≠ r∧i ∉ rs:=⟨fun e=>hi (by rw [e];simp),fun e=>hi (List.mem_cons_of_mem _ e)⟩
   rw [h5 i h6.2,World.putObj_heap_other h6.1]
theorem CJ (hT : bO T) (hK : aO rec) (hKP : fJ recP) (hS : bF T rec m) (hP : iw T recP mp) (hD : jT T rec) {f : FuncId} {args : List Value} {hp : Hp} {L : List ey} (h : lA T rec recP (.call f args hp) = some L) :
    (∃ fn c, T.P.funcs[f]? = some fn ∧ (fn.name == "runtime.NumGoroutine") = false ∧ fn.body = some c) ∧ (∀ r ∈ L, (∃ v h, r = .ret v h) ∨ ∃ v h, r = .fG v h) ∧
    ∀ γ w args' N, Wf hp → HR γ hp.get w → cP γ hp.n N → (∀ r ∈ L, r.hp.n ≤ N) → cB γ args args' → CallsIn (FW none) 0 T.P f args'.toArray w (CI γ hp w L) := by
  obtain ⟨fn, c, R, h1, h2, h3, h4⟩ := kX h
  obtain ⟨q1, q2, q3⟩ := hT.Ec f fn h1
  have hsub : ∀ p ∈ R, ∃ M, kG T fn.results.toList p = some M ∧ ∀ q ∈ M, q ∈ L := fun p hpm => bA h4 p hpm
  refine ⟨⟨fn, c, q1, q2, h2⟩, fun r hr => ?_, fun γ w args' N hw hh hf hN ha => ?_⟩
  · obtain ⟨p, hpm, M, h5, h6⟩ := iU h4 r hr
    rcases ku h5 with ⟨_, vs, _, rfl⟩ | ⟨v, _, rfl⟩
    · exact .inl ⟨_, _, List.mem_singleton.1 h6⟩
    · exact .inr ⟨_, _, List.mem_singleton.1 h6⟩
  refine callsIn_of_wp_marks (F := FW none) q1 h2 trivial ?_ rfl
  have hR : ∀ p ∈ R, p.2.hp.n ≤ N := by
    intro p hpm
    obtain ⟨M, e1, e2⟩ := hsub p hpm
    rcases ku e1 with ⟨_, vs, _, rfl⟩ | ⟨v, _, rfl⟩
    · exact hN _ (e2 _ (List.mem_singleton_self _))
    · exact hN _ (e2 _ (List.mem_singleton_self _))
  have hok : codeOk (args'.toArray ++ Array.replicate (fn.ntmps - args'.toArray.size) undef).size c = true := mW (by simp; omega) (q3 c h2)
  have hpre : Pre γ ⟨setArgs .leaf 0 args, hp, false⟩ { tmps := args'.toArray ++ Array.replicate (fn.ntmps - args'.toArray.size) undef, defers := [] } w none ⟨w.heap.size, []⟩ :=
    ⟨uu.args ha _, hh, rfl, s8.nil _ _ ⟨_, []⟩, hw, fun b hb => (by cases hb)⟩
  refine Go.wpIn_mono (oD hT hK hKP hS hP hD c _ R h3 hpre hok hf hR (Nat.le_refl _)) fun e a' w' hq => ?_
  obtain ⟨p, hpm, γ', he, hp', hsz, hs⟩ := hq
  obtain ⟨M, e1, e2⟩ := hsub p hpm
  obtain ⟨rs, d1, d2, d3⟩ := hp'.df
  have off : ∀ w2 : World, w2.os = w'.os → w2.tape = w'.tape → w2.output = w'.output → w2.heap.size = w'.heap.size → (∀ i, i ∉ rs → w2.heap[i]? = w'.heap[i]?) → HR γ' p.2.hp.get w2 ∧ Step γ hp w γ' p.2.hp w2 := by
    intro w2 k1 k2 k3 k4 k5
    have hh2 : HR γ' p.2.hp.get w2 := hp'.hr.off (by omega) (fun k b o hl => k5 b fun hb => (d3 b hb).2.2 k o hl) (fun b hb => k5 b fun hbm => by
      have h1 : w.heap.size ≤ b := (d3 b hbm).1
      have h2 := hs.le.B
      have h3 := hh.base
      omega)
    refine ⟨hh2, hs.n, hs.le, hs.out, hh2, hs.iJ.off k1 k2 k3 (by omega) fun b hb => k5 b fun hbm => ?_⟩
    have : w.heap.size ≤ b := (d3 b hbm).1
    omega
  rcases ku e1 with ⟨hx, vs, hvs, rfl⟩ | ⟨v, hx, rfl⟩
  · have key : LeavesInM (FW none) 0 T.P fn a'.tmps (CI γ hp w L) a'.defers .returning w' := by
      rw [d1]
      refine kz (γ := γ') (by simp) rs w' d2 (fun r hr => ⟨(d3 r hr).2.1, (d3 r hr).2.2⟩) fun w2 k1 k2 k3 k4 k5 => ?_
      obtain ⟨hh2, hs2⟩ := off w2 k1 k2 k3 k4 k5
      obtain ⟨v', r1, r2⟩ := qT hT hh2 hp'.fr hvs
      exact ⟨v', r1, .inl ⟨bE vs, p.2.hp, v', γ', e2 _ (List.mem_singleton_self _), rfl, r2, hs2⟩⟩
    obtain ⟨x, s⟩ := p
    rcases hx with hx | hx
    · simp only at hx
      subst hx
      obtain rfl : e = .normal := he
      exact key
    · simp only at hx
      subst hx
      obtain rfl : e = .ret := he
      exact key
  · obtain ⟨x, s⟩ := p
    simp only at hx
    subst hx
    obtain ⟨v', rfl, hv⟩ := he
    show LeavesInM (FW none) 0 T.P fn a'.tmps (CI γ hp w L) a'.defers (.panicking [{ v := v', recovered := false }]) w'
    rw [d1]
    refine kz (γ := γ') (by simp) rs w' d2 (fun r hr => ⟨(d3 r hr).2.1, (d3 r hr).2.2⟩) fun w2 k1 k2 k3 k4 k5 => ?_
    obtain ⟨hh2, hs2⟩ := off w2 k1 k2 k3 k4 k5
    exact .inr ⟨v, s.hp, v', γ', e2 _ (List.mem_singleton_self _), rfl, hv, hs2⟩
theorem CK (hT:bO T) (hK:aO rec) (hKP:fJ recP) (hS:bF T rec m) (hP:iw T recP mp) (hD:jT T rec) {c:Code} {st:St} {Lr:List ey} (h:lA T rec recP (.loop c st)=some Lr)
  (L:List (kF × St)) (hL:∀ r ∈ Lr,∃ p ∈ L,r=.out p.1 p.2) (γ:Gm) (w:World) (a:Act) (rd:Option Nat) (N0:NB) (N:Nat) (hp:Pre γ st a w rd N0) (hc:codeOk a.tmps.size c=true) (hf:cP γ st.hp.n N)
  (hN:∀ r ∈ Lr,r.hp.n≤N) (h0:N0.n≤w.heap.size):Code.roundsIn (FW rd) 0 T.P c (gV γ st.hp w a.tmps.size rd N0 L) (mp+1) a w:=by
 obtain ⟨R,h1,h2⟩:=kY h
 have hsub:∀ p ∈ R,∃ M,gR recP c p=some M∧∀ q ∈ M,q ∈ Lr:=fun p hpm=>bA h2 p hpm
 have hR:∀ p ∈ R,p.2.hp.n≤N:=by
  intro p hpm
  obtain ⟨M,e1,e2⟩:=hsub p hpm
  rcases kW e1 with ⟨_,e3⟩|⟨_,rfl⟩
  ·exact Good.le (hKP _ _ e3) fun q hq=>hN q (e2 q hq)
  ·exact hN _ (e2 _ (List.mem_singleton_self _))
 rw [roundsIn_succ]
 refine Go.wpIn_mono (oD hT hK hKP hS hP hD c st R h1 hp hc hf hR h0) fun e a1 w1 hq=>?_
 obtain ⟨p,hpm,γ1,he,hp1,hsz,hs⟩:=hq
 obtain ⟨M,e1,e2⟩:=hsub p hpm
 rcases kW e1 with ⟨e3,e4⟩|⟨e3,rfl⟩
 ·rw [e3] at he
  obtain rfl:e=.normal:=he
  have:=hP.loop c p.2 M e4 L (fun r hr=>hL r (e2 r hr)) γ1 w1 a1 rd N0 N hp1 (by rw [hsz];exact hc) (hs.fresh hf) (fun r hr=>hN r (e2 r hr)) (Nat.le_trans h0 hs.iJ.size)
  rw [hsz] at this
  show Code.roundsIn _ _ _ _ _ _ _ _
  have mono:∀ k a' w',Code.roundsIn (FW rd) 0 T.P c (gV γ1 p.2.hp w1 a.tmps.size rd N0 L) k a' w'→Code.roundsIn (FW rd) 0 T.P c (gV γ st.hp w a.tmps.size rd N0 L) k a' w':=by
   intro k
   induction k with
   | zero=>intro a' w' h;exact h
   | succ k ih =>
    intro a' w' h
    rw [roundsIn_succ] at h ⊢
    refine Go.wpIn_mono h fun e a2 w2 hq=>?_
    cases e with
    | normal=>exact ih _ _ hq
    | _=>exact gV.trans hs hq fun _ h=>h
  exact mono _ _ _ this
 ·obtain ⟨q,hq,hqe⟩:=hL _ (e2 _ (List.mem_singleton_self _))
  have hfin:gV γ st.hp w a.tmps.size rd N0 L e a1 w1:=by
   obtain ⟨x,s⟩:=p
   obtain ⟨x',s'⟩:=q
   simp only [ey.out.injEq] at hqe
   obtain ⟨rfl,rfl⟩:=hqe
   exact ⟨_,hq,γ1,he,hp1,hsz,hs⟩
  cases e with
  | normal =>
   exfalso
   obtain ⟨x,s⟩:=p
   cases x with
   | e z =>
    have he:Exit.normal=z:=he
    subst he
    exact e3 rfl
   | fG v =>
    obtain ⟨v',he,_⟩:=he
    cases he
  | _=>exact hfin
theorem sx (hT:bO T) (hK:aO rec) (hS:bF T rec m) (hD:jT T rec):∀ n,iw T (gJ T rec n) n
 | 0=>⟨(fun _ _ _ _ h=>by cases h),(fun _ _ _ h=>by cases h)⟩
 | n+1=>⟨fun _ _ _ _ h=>CJ hT hK (jS hK n) hS (sx hT hK hS hD n) hD h,fun _ _ _ h=>CK hT hK (jS hK n) hS (sx hT hK hS hD n) hD h⟩
end
end Go.RM
namespace Go.RM
open Go
inductive FK (γ:Gm):Option Value→FrameMode→Prop
 | ret:FK γ none .returning
 | fG {v v':Value}:VR γ v v'→FK γ (some v) (.panicking [{v:=v',recovered:=false}])
 | done {v':Value}:FK γ none (.panicking [{v:=v',recovered:=true}])
theorem FK.mono {γ γ':Gm} (h:γ.Le γ') {pv:Option Value} {u:FrameMode} (hm:FK γ pv u):FK γ' pv u:=by
 cases hm with
 | ret=>exact .ret
 | fG hv=>exact .fG (hv.mono h)
 | done=>exact .done
theorem FK.settle {γ:Gm} {u:FrameMode} (h:FK γ none u):settle u=.returning:=by
 cases h with
 | ret=>rfl
 | done=>rfl
theorem oE {F:Fence} {n:Nat} {P:Program} {c:Code} {Q Q':Exit→Act→List Frame→World→Prop} {a:Act} {cs:List Frame} {w:World} (h:c.wpSIn F n P Q a cs w) (hq:∀ e a cs w,Q e a cs w→Q' e a cs w):c.wpSIn F n P Q' a cs w :=
 fun b k hb hr hF hroom=>let ⟨e,a',cs',w',l,q,r⟩:=h b k hb hr hF hroom;⟨e,a',cs',w',l,hq _ _ _ _ q,r⟩
theorem CL {ρ:Operand→Value} {o:Oper} {args:Array Operand} {tys:Array TypeId} (h:o.op=.call ⟨.builtin .recover,args,tys⟩) {P:Program} {w:World}:(execOp ρ o).run P w=.ok .recover w:=by
 obtain ⟨dst,op,ty,pos,after,guard⟩:=o
 simp only at h
 subst h
 rfl
section
variable {T : bM} {rec : pR → Option (List fQ)} {m : Nat}
structure Ia (γ:Gm) (st:St) (a:Act) (w:World):Prop where
 fr:uu γ st.fr a.tmps
 hr:HR γ st.hp.get w
 wf:Wf st.hp
 df:a.defers=[]
def Ib (γ:Gm) (H:Hp) (w:World) (sz:Nat) (c₀:Frame) (cs:List Frame) (p:Exit × St × Option Value) (e:Exit) (a':Act) (cs':List Frame) (w':World):Prop :=
 e=p.1∧∃ γ' u',cs'={c₀ with mode:=u'} :: cs∧FK γ' p.2.2 u'∧Ia γ' p.2.1 a' w'∧a'.tmps.size=sz∧Step γ H w γ' p.2.1.hp w'
theorem xz (hT:bO T) (ops:Array Oper) {γ0:Gm} {H0:Hp} {w0:World} {sz:Nat} {N:Nat} {c₀:Frame} {cs:List Frame}:∀ (l:List Oper) (i:Nat),ops.toList.drop i=l→∀ (st:St) (pv:Option Value) (p:St × Option Value),gS T ops.toList l st pv=some p →
  ∀ γ a w u,Ia γ st a w→a.tmps.size=sz→Step γ0 H0 w0 γ st.hp w→FK γ pv u→l.all (cN sz)=true→cP γ st.hp.n N→p.1.hp.n≤N →
  wpOpsSIn (FW none) 0 T.P ops (Ib γ0 H0 w0 sz c₀ cs (.normal,p.1,p.2)) (List.range' i l.length) a ({c₀ with mode:=u} :: cs) w:=by
 intro l
 induction l with
 | nil =>
  intro i _ st pv p h γ a w u hp hsz hs hm _ _ _
  rw [s7] at h
  cases h
  exact ⟨rfl,γ,u,rfl,hm,hp,hsz,hs⟩
 | cons o l ih =>
  intro i hi st pv p h γ a w u hp hsz hs hm hok hf hN
  rw [nt] at h
  simp only [List.all_cons,Bool.and_eq_true] at hok
  have hdst:∀ d,o.dst=some d→d < a.tmps.size:=by rw [hsz];exact gU hok.1
  have hlt:i < ops.toList.length:=by
   by_cases hlt:i < ops.toList.length
   ·exact hlt
   ·rw [List.drop_eq_nil_of_le (by omega)] at hi
    cases hi
  have hoi:ops[i]?=some o:=by
   rw [List.drop_eq_getElem_cons hlt] at hi
   have h1:=(List.cons.inj hi).1
   rw [←Array.getElem?_toList,List.getElem?_eq_getElem hlt,h1]
  have hnx:ops.toList.drop (i+1)=l:=by
   rw [List.drop_eq_getElem_cons hlt] at hi
   exact (List.cons.inj hi).2
  have hput:∀ {γ':Gm} {w':World} {hp':Hp} {v v':Value},VR γ' v v'→Step γ st.hp w γ' hp' w'→dL st.hp hp'→Ia γ' ⟨dR st.fr o.dst v,hp',st.rd⟩ (a.put o.dst v') w':=fun hv hst hk =>
   ⟨(hp.fr.mono hst.le).put hv hdst,hst.hr,hk.wf hp.wf,by rw [put_defers];exact hp.df⟩
  have hwant:=uD hp.fr ops o
  rw [List.length_cons,List.range'_succ]
  simp only [wpOpsSIn,hoi]
  refine ⟨fun _ _=>trivial,?_⟩
  rw [hwant]
  cases hg:bx ops.toList st.fr o.guard with
  | false =>
   rw [hg] at h
   simp only [cond_false] at h
   simp only [Bool.false_eq_true,if_false]
   exact ih (i+1) hnx _ pv p h γ _ w u (hput (VR.undef γ) (Step.refl hp.hr) (.refl _)) ((dF _ _ _).trans hsz) hs hm hok.2 hf hN
  | true =>
   rw [hg] at h
   simp only [cond_true] at h
   simp only [if_true]
   cases hop:Kk T o.op st pv with
   | none=>rw [hop] at h;cases h
   | some q =>
    obtain ⟨v,hp',pv'⟩:=q
    rw [hop] at h
    simp only at h
    rcases Cy hop with ⟨args,tys,ho,rfl,rfl,hv⟩|⟨hk,rfl,e,hoa,rfl⟩
    ·rw [CL ho]
     simp only
     cases hm with
     | ret =>
      simp only [recoverD]
      exact ih (i+1) hnx _ none p h γ _ w _ (hput (by rw [hv];exact VR.of_flat rfl) (Step.refl hp.hr) (.refl _)) ((dF _ _ _).trans hsz) hs .ret hok.2 hf hN
     | done =>
      simp only [recoverD]
      exact ih (i+1) hnx _ none p h γ _ w _ (hput (by rw [hv];exact VR.of_flat rfl) (Step.refl hp.hr) (.refl _)) ((dF _ _ _).trans hsz) hs .done hok.2 hf hN
     | fG hvv =>
      simp only [recoverD]
      exact ih (i+1) hnx _ none p h γ _ w _ (hput (by rw [hv];exact hvv) (Step.refl hp.hr) (.refl _)) ((dF _ _ _).trans hsz) hs .done hok.2 hf hN
    ·have hops:o.op.operands.toList.all mO=true:=by
      have:=hok.1
      simp only [cN,Bool.and_eq_true] at this
      exact this.1
     have hev:∀ x ∈ o.op.operands,VR γ (aX st.fr x) (a.eval x):=fun x hx=>vz hp.fr (List.all_eq_true.1 hops x (by simpa using hx))
     have hkeep:=Cz hop
     have hrest:=rL _ _ _ _ _ h
     have hn:e.news=true→γ.loc st.hp.n=none:=fun he=>hf _ (Nat.le_refl _) (by
      have:=hrest.n
      simp only [qi,he,if_true] at this
      omega)
     obtain ⟨v',w',γ',h1,h2,h3⟩:=(w7 (n:=st.hp.n) hT hp.hr hn hoa hev).step
     have hst:Step γ st.hp w γ' (st.hp.app e) w':=h3
     have go:=ih (i+1) hnx _ pv' p h γ' (a.put o.dst v') w' u (hput h2 hst hkeep) ((dF _ _ _).trans hsz) (hs.trans hst) (hm.mono hst.le) hok.2 (hst.fresh hf) hN
     rcases h1 with h1|⟨h1,rfl⟩
     ·rw [h1]
      exact go
     ·rw [h1]
      exact go
theorem Bk (hT:bO T) {N:Nat} {c₀:Frame} {cs:List Frame}:∀ (c:Code) (st:St) (pv:Option Value) (p:Exit × St × Option Value),kS T c st pv=some p →
  ∀ γ a w u,Ia γ st a w→FK γ pv u→codeOk a.tmps.size c=true→cP γ st.hp.n N→p.2.1.hp.n≤N→c.wpSIn (FW none) 0 T.P (Ib γ st.hp w a.tmps.size c₀ cs p) a ({c₀ with mode:=u} :: cs) w:=by
 intro c
 induction c with
 | skip =>
  intro st pv p h γ a w u hp hm _ _ _
  cases h
  exact wpSIn_of_wpIn rfl (wpIn_skip ⟨rfl,γ,u,rfl,hm,hp,rfl,Step.refl hp.hr⟩)
 | ret =>
  intro st pv p h γ a w u hp hm _ _ _
  cases h
  exact wpSIn_of_wpIn rfl (wpIn_ret ⟨rfl,γ,u,rfl,hm,hp,rfl,Step.refl hp.hr⟩)
 | region id ops draw =>
  intro st pv p h γ a w u hp hm hc hf hN
  rw [nu] at h
  cases draw with
  | true=>cases h
  | false =>
   simp only [cond_false] at h
   split at h
   ·rename_i q hq
    cases h
    simp only [codeOk,Bool.and_eq_true] at hc
    refine wpSIn_region ?_
    have:=xz hT ops (c₀:=c₀) (cs:=cs) ops.toList 0 rfl st pv q hq γ a w u hp rfl (Step.refl hp.hr) hm hc.2 hf hN
    rw [List.range_eq_range',←Array.length_toList]
    exact this
   ·cases h
 | seq x y ihx ihy =>
  intro st pv p h γ a w u hp hm hc hf hN
  simp only [codeOk,Bool.and_eq_true] at hc
  rw [sv] at h
  split at h
  ·rename_i st' pv' hx
   have hk:=vu _ _ _ _ h
   refine wpSIn_seq ?_
   have h1:=ihx st pv _ hx γ a w u hp hm hc.1 hf (Nat.le_trans hk.n hN)
   refine oE h1 fun e a1 cs1 w1 hq=>?_
   obtain ⟨he,γ1,u1,rfl,hm1,hp1,hsz,hs⟩:=hq
   simp only at he
   subst he
   refine oE (ihy st' pv' p h γ1 a1 w1 u1 hp1 hm1 (by rw [hsz];exact hc.2) (hs.fresh hf) hN) fun e a2 cs2 w2 hq=>?_
   obtain ⟨he,γ2,u2,h2,hm2,hp2,hsz2,hs2⟩:=hq
   exact ⟨he,γ2,u2,h2,hm2,hp2,hsz2.trans hsz,hs.trans hs2⟩
  ·rename_i hne hx
   cases h
   refine wpSIn_seq ?_
   refine oE (ihx st pv p hx γ a w u hp hm hc.1 hf hN) fun e a1 cs1 w1 hq=>?_
   obtain ⟨z,s1,pv1⟩:=p
   cases e with
   | normal =>
    obtain ⟨he,_⟩:=hq
    simp only at he
    subst he
    exact absurd rfl (hne s1 pv1)
   | _=>exact hq
  ·cases h
 | cond x y z ihy ihz =>
  intro st pv p h γ a w u hp hm hc hf hN
  simp only [codeOk,Bool.and_eq_true] at hc
  rw [qg] at h
  cases hv:aX st.fr x with
  | bool t =>
   rw [hv] at h
   simp only at h
   have he:=(vz hp.fr hc.1.1)
   rw [hv] at he
   refine wpSIn_cond (he.cW rfl) ?_
   cases t with
   | true=>exact ihy st pv p h γ a w u hp hm hc.1.2 hf hN
   | false=>exact ihz st pv p h γ a w u hp hm hc.2 hf hN
  | _=>rw [hv] at h;cases h
 | _=>intro st pv p h;cases h
end
end Go.RM
namespace Go.RM
open Go
section
variable {T : bM} {rec : pR → Option (List fQ)} {m : Nat}
theorem GR (hT:bO T) {clo clo':Value} {hp hp':Hp} {pv pv':Option Value} (h:kT T clo hp pv=some (hp',pv')) {γ:Gm} {w:World} {u:FrameMode} {N:Nat} (hv:VR γ clo clo') (hh:HR γ hp.get w) (hw:Wf hp) (hf:cP γ hp.n N) (hN:hp'.n≤N) (hm:FK γ pv u) {d:Deferred} (hd:(Deferred.ofValue clo' #[]).run T.P w=.ok d w) :
  ∃ fv cap g as,d.target=.fn fv cap∧(invoke d.target d.args).run T.P w=.ok (.enter g as) w∧CallsDIn (FW none) 0 T.P g as u w fun e u' w'=>∃ v γ',e=.returned v∧FK γ' pv' u'∧Step γ hp w γ' hp' w':=by
 obtain ⟨g,as,fn,c,x,st,hg,h1,h2,h3,h4,h5,rfl⟩:=qh h
 obtain ⟨q1,q2,q3⟩:=hT.Ee g fn h1
 obtain ⟨fs,cs,rfl,rfl⟩:=jd hg
 obtain ⟨fs',cs',rfl,e1,e2⟩:=hv.kL
 have hd':d={target:=.fn (.func g) cs',args:=fs'++#[]}:=by
  simp only [Deferred.ofValue] at hd
  cases hd;rfl
 subst hd'
 refine ⟨.func g,cs',g,fs'++#[]++cs',rfl,lM q1 q2 h2 _ w,?_⟩
 have hargs:cB γ (fs.toList++[]++cs.toList) (fs'.toList++[]++cs'.toList):=(e1.append (.nil γ)).append e2
 have he:(fs'.toList++[]++cs'.toList).toArray=fs'++#[]++cs':=by apply Array.ext';simp
 rw [←he]
 refine callsDIn_of_wpSIn q1 h2 trivial fun c₀ cs0 _=>?_
 subst_vars
 have hok:codeOk ((fs'.toList++[]++cs'.toList).toArray++Array.replicate (fn.ntmps - (fs'.toList++[]++cs'.toList).toArray.size) undef).size c=true:=mW (by simp;omega) (q3 c h2)
 have hpre:Ia γ ⟨setArgs .leaf 0 (fs.toList++[]++cs.toList),hp,false⟩ {tmps:=(fs'.toList++[]++cs'.toList).toArray++Array.replicate (fn.ntmps - (fs'.toList++[]++cs'.toList).toArray.size) undef,defers:=[]} w :=
  ⟨uu.args hargs _,hh,hw,rfl⟩
 have hc0:({c₀ with mode:=c₀.mode}:Frame)=c₀:=rfl
 refine oE (Bk hT (c₀:=c₀) (cs:=cs0) c _ pv _ h4 γ _ w c₀.mode hpre hm hok hf hN) fun e a' cs1 w' hq=>?_
 obtain ⟨he,γ',u',rfl,hm',hp',hsz,hs⟩:=hq
 simp only at he
 have hres:fY T st.fr st.hp fn.results.toList=some []:=by rw [h3];rfl
 obtain ⟨v',r1,r2⟩:=qT hT hp'.hr hp'.fr hres
 rcases h5 with rfl|rfl
 ·subst he
  exact ⟨hp'.df,u',rfl,v',r1,v',γ',rfl,hm',hs⟩
 ·subst he
  exact ⟨hp'.df,u',rfl,v',r1,v',γ',rfl,hm',hs⟩
theorem Bl (hT:bO T) (hK:aO rec) (hS:bF T rec m) (ops:Array Oper) {γ0:Gm} {H0:Hp} {w0:World} {sz:Nat} {rd:Option Nat} {N0:NB} {N:Nat} {Q:Exit→Act→World→Prop} {tl:List Oper} :
  ∀ (l:List Oper) (st:St) (L:List St),bL T rec ops.toList l st=some L→∀ γ a w,Pre γ st a w rd N0→a.tmps.size=sz→Step γ0 H0 w0 γ st.hp w→l.all (cN sz)=true→cP γ st.hp.n N →
   (∀ s ∈ L,s.hp.n≤N)→(∀ s ∈ L,∀ γ a w,Pre γ s a w rd N0→a.tmps.size=sz→Step γ0 H0 w0 γ s.hp w→cP γ s.hp.n N→wpListIn (FW rd) 0 T.P ops Q tl a w)→wpListIn (FW rd) 0 T.P ops Q (l++tl) a w:=by
 intro l
 induction l with
 | nil =>
  intro st L h γ a w hp hsz hs _ hf _ hb
  rw [i9] at h
  cases h
  exact hb st (by simp) γ a w hp hsz hs hf
 | cons o l ih =>
  intro st L h γ a w hp hsz hs hok hf hN hb
  rw [dP] at h
  simp only [List.all_cons,Bool.and_eq_true] at hok
  have hdst:∀ d,o.dst=some d→d < a.tmps.size:=by rw [hsz];exact gU hok.1
  rw [List.cons_append,wpListIn,uD hp.fr]
  cases hg:bx ops.toList st.fr o.guard with
  | false =>
   rw [hg] at h
   simp only [cond_false] at h
   refine ⟨fun _ _=>trivial,?_⟩
   have hr:=Step.refl hp.hr
   exact ih _ L h γ _ w (hp.put (VR.undef γ) hr hdst (.refl _)) ((dF _ _ _).trans hsz) hs hok.2 hf hN hb
  | true =>
   rw [hg] at h
   simp only [cond_true] at h
   simp only [if_true]
   cases ha:fh T rec o.op st with
   | none=>rw [ha] at h;cases h
   | some A =>
    rw [ha] at h
    simp only at h
    have hsub:∀ p ∈ A,∃ M,bL T rec ops.toList l ⟨dR st.fr o.dst p.1,p.2,st.rd⟩=some M∧∀ s ∈ M,s ∈ L:=fun p hpm=>bA h p hpm
    have hle:∀ p ∈ A,p.2.n≤N:=fun p hpm=>by
     obtain ⟨M,h1,h2⟩:=hsub p hpm
     exact Good.le (eA hK _ _ _ _ h1).1 (fun s hsm=>hN s (h2 s hsm))
    have hops:o.op.operands.toList.all mO=true:=by
     have:=hok.1
     simp only [cN,Bool.and_eq_true] at this
     exact this.1
    refine mX hT hS ha hp.fr hp.wf hp.hr hops hf hle fun v hp' v' γ' w' hm hv hst=>?_
    obtain ⟨M,h1,h2⟩:=hsub _ hm
    exact ih _ M h1 γ' _ w' (hp.put hv hst hdst ((mo hK ha).2 _ hm)) ((dF _ _ _).trans hsz) (hs.trans hst) hok.2 (hst.fresh hf) (fun s hsm=>hN s (h2 s hsm)) fun s hsm=>hb s (h2 s hsm)
theorem Bm {c:Code} {l:List Oper} {x:Operand} (h:qO c=some (l,x)):∃ id ops args tys ty pos after,c=.region id ops false∧args.toList=[]∧ops.toList=l++[⟨none,.defer ⟨.value x,args,tys⟩,ty,pos,after,none⟩]:=by
 unfold qO at h
 split at h
 ·rename_i id ops
  split at h
  ·rename_i y args tys ty pos after l' hr
   split at h
   ·rename_i ha
    cases h
    refine ⟨id,ops,args,tys,ty,pos,after,rfl,ha,?_⟩
    have:=congrArg List.reverse hr
    rw [List.reverse_reverse,List.reverse_cons] at this
    exact this
   ·cases h
  ·cases h
 ·cases h
def Mq (T:bM) (γ:Gm) (H:Hp) (w:World) (sz n0:Nat) (L:List (kF × St × Value)) (e:Exit) (a':Act) (w':World):Prop :=
 ∃ p ∈ L,∃ γ' d clo' n1 ds1,Nn γ' p.1 e∧VR γ' p.2.2 clo'∧(∀ w,(Deferred.ofValue clo' #[]).run T.P w=.ok d w)∧Pre γ' p.2.1 a' w' none ⟨n1,d :: ds1⟩∧s8 γ' w' ⟨n0,[]⟩ ds1 ∧
  (∀ r,({target:=.collected r,args:=#[]}:Deferred) ∈ ds1→r < n1)∧n0≤n1∧a'.tmps.size=sz∧Step γ H w γ' p.2.1.hp w'
theorem CM {P:Program} {γ:Gm} {clo v:Value} {g:Goal} (h:cC clo []=some g) (hv:VR γ clo v):∃ d,∀ w:World,(Deferred.ofValue v #[]).run P w=.ok d w:=by
 cases g with
 | fn f as =>
  obtain ⟨fs,cs,rfl,_⟩:=jd h
  obtain ⟨fs',cs',rfl,_,_⟩:=hv.kL
  exact ⟨_,fun _=>rfl⟩
 | yield l as =>
  obtain ⟨fs,cs,rfl,_⟩:=lK h
  obtain ⟨_,b,rfl,_⟩:=hv.qU
  exact ⟨_,fun _=>rfl⟩
theorem CN (hT:bO T) (hK:aO rec) (hS:bF T rec m) (hD:jU T rec):∀ (c:Code) (st:St) (L:List (kF × St × Value)),pF T rec c st=some L→(∀ p ∈ L,∃ g,cC p.2.2 []=some g) →
  ∀ {γ:Gm} {w:World} {a:Act} {n0 N:Nat},Pre γ st a w none ⟨n0,[]⟩→codeOk a.tmps.size c=true→cP γ st.hp.n N→(∀ p ∈ L,p.2.1.hp.n≤N)→n0≤w.heap.size →
  c.wpIn (FW none) 0 T.P (Mq T γ st.hp w a.tmps.size n0 L) a w:=by
 intro c
 induction c with
 | seq x y ihx ihy =>
  intro st L h hcl γ w a n0 N hp hc hf hN h0
  simp only [codeOk,Bool.and_eq_true] at hc
  rw [nM] at h
  split at h
  ·rename_i l o hdf
   split at h
   ·rename_i M hx
    obtain ⟨id,ops,args,tys,ty,pos,after,rfl,hargs,hops⟩:=Bm hdf
    have hsub:∀ s ∈ M,∃ R,cq T rec (gJ T rec 1000) y s=some R∧∀ p ∈ R,(p.1,p.2,aX s.fr o) ∈ L:=by
     intro s hs
     obtain ⟨R',h1,h2⟩:=bA h s hs
     simp only [Option.map_eq_some_iff] at h1
     obtain ⟨R,h3,rfl⟩:=h1
     exact ⟨R,h3,fun p hpm=>h2 _ (List.mem_map.2 ⟨p,hpm,rfl⟩)⟩
    have hMN:∀ s ∈ M,s.hp.n≤N:=fun s hs=>by
     obtain ⟨R,h1,h2⟩:=hsub s hs
     exact Good.le (jc hK (jS hK 1000) _ _ _ h1) fun p hpm=>hN _ (h2 p hpm)
    have hok:=hc.1
    simp only [codeOk,Bool.and_eq_true] at hok
    have hok2:ops.toList.all (cN a.tmps.size)=true:=hok.2
    have hall:l.all (cN a.tmps.size)=true∧mO o=true:=by
     rw [hops,List.all_append,Bool.and_eq_true] at hok2
     refine ⟨hok2.1,?_⟩
     have:=hok2.2
     simp [cN,Op.operands,Call.operands] at this
     exact this.1
    refine wpIn_seq (wpIn_region_list ?_)
    rw [hops]
    refine Bl hT hK hS ops (γ0:=γ) (H0:=st.hp) (w0:=w) l st M hx γ a w hp rfl (Step.refl hp.hr) hall.1 hf hMN fun s hs γ1 a1 w1 hp1 hsz hs1 hf1=>?_
    obtain ⟨R,h1,h2⟩:=hsub s hs
    have hv1:VR γ1 (aX s.fr o) (a1.eval o):=vz hp1.fr hall.2
    have hRne:∃ p,p ∈ R:=by
     have:=(jc hK (jS hK 1000) _ _ _ h1).1
     cases R with
     | nil=>exact absurd rfl this
     | cons p l=>exact ⟨p,by simp⟩
    obtain ⟨p0,hp0⟩:=hRne
    obtain ⟨g,hg⟩:=hcl _ (h2 p0 hp0)
    obtain ⟨d,hd⟩:=CM (P:=T.P) hg hv1
    rw [wpListIn]
    have hw:Region.wanted (⟨none,.defer ⟨.value o,args,tys⟩,ty,pos,after,none⟩:Oper) (yielded ops a1.tmps)=true:=rfl
    rw [if_pos hw]
    refine ⟨fun _ _=>trivial,?_⟩
    have hrun:(Oper.semAt (none:Option Nat) a1.eval (⟨none,.defer ⟨.value o,args,tys⟩,ty,pos,after,none⟩:Oper)).run T.P w1=.ok (.defer d) w1:=by
     rw [Oper.semAt_none]
     show ((do Pure.pure (Next.defer (←resolve a1.eval ⟨.value o,args,tys⟩ ty))):Sem Next).run T.P w1=_
     refine eG (a:=d) ?_
     show (Deferred.ofValue (a1.eval o) (args.map a1.eval)).run T.P w1=_
     have:args=#[]:=by apply Array.ext';exact hargs
     subst this
     rw [show Array.map a1.eval #[]=#[] by simp]
     exact hd w1
    show Oper.uponIn _ _ _ _ _ _ _ ((Oper.semAt (none:Option Nat) a1.eval _).run T.P w1)
    rw [hrun]
    have hdf1:=hp1.df
    have hpre:Pre γ1 s {a1 with defers:=d :: a1.defers} w1 none ⟨w1.heap.size,d :: a1.defers⟩:=⟨hp1.fr,hp1.hr,hp1.rd,s8.nil _ _ ⟨_,d :: a1.defers⟩,hp1.wf,hp1.lp⟩
    have hlt:∀ r,({target:=.collected r,args:=#[]}:Deferred) ∈ a1.defers→r < w1.heap.size:=by
     intro r hr
     obtain ⟨rs,e1,e2,e3⟩:=hdf1
     rw [e1,List.append_nil] at hr
     obtain ⟨r',hr',he⟩:=List.mem_map.1 hr
     simp only [Deferred.mk.injEq,Target.collected.injEq,and_true] at he
     subst he
     exact (Array.getElem?_eq_some_iff.1 (e3 r' hr').2.1).1
    refine Go.wpIn_mono (oD hT hK (jS hK 1000) hS (sx hT hK hS hD.2 1000) hD.2 y s R h1 hpre (by show codeOk a1.tmps.size y=true;rw [hsz];exact hc.2) hf1 (fun p hpm=>hN _ (h2 p hpm)) (Nat.le_refl _)) fun e a2 w2 hq=>?_
    obtain ⟨p,hpm,γ2,he,hp2,hsz2,hs2⟩:=hq
    refine ⟨_,h2 p hpm,γ2,d,a1.eval o,w1.heap.size,a1.defers,he,hv1.mono hs2.le,hd,hp2,hdf1.step hs2,hlt,Nat.le_trans h0 hs1.iJ.size,hsz2.trans hsz,hs1.trans hs2⟩
   ·cases h
  ·split at h
   ·rename_i A hx
    have hsub:∀ p ∈ A,p.1=.normal∧∃ M,pF T rec y p.2=some M∧∀ q ∈ M,q ∈ L:=by
     intro p hpm
     obtain ⟨M,h1,h2⟩:=bA h p hpm
     split at h1
     ·rename_i he
      exact ⟨he,M,h1,h2⟩
     ·cases h1
    have hA:∀ p ∈ A,p.2.hp.n≤N:=by
     intro p hpm
     obtain ⟨_,M,h1,h2⟩:=hsub p hpm
     exact Good.le (xw hK y p.2 M h1) fun q hq=>hN q (h2 q hq)
    refine wpIn_seq (Go.wpIn_mono (kM hT hK hS hD.1 x st A hx hp hc.1 hf hA h0) fun e a1 w1 hq=>?_)
    obtain ⟨p,hpm,γ1,he,hp1,hsz,hs⟩:=hq
    obtain ⟨h3,M,h1,h2⟩:=hsub p hpm
    rw [h3] at he
    subst he
    refine Go.wpIn_mono (ihy p.2 M h1 (fun q hq=>hcl q (h2 q hq)) hp1 (by rw [hsz];exact hc.2) (hs.fresh hf) (fun q hq=>hN q (h2 q hq)) (Nat.le_trans h0 hs.iJ.size)) fun e a2 w2 hq=>?_
    obtain ⟨q,hqm,γ2,d,clo',n1,ds1,g1,g2,g3,g4,g5,g6,g7,g8,g9⟩:=hq
    exact ⟨q,h2 q hqm,γ2,d,clo',n1,ds1,g1,g2,g3,g4,g5,g6,g7,g8.trans hsz,hs.trans g9⟩
   ·cases h
 | _=>intro st L h;cases h
theorem Step.Np {γ γ':Gm} {H H':Hp} {w w' w2:World} {rs:List Nat} (hh:HR γ H.get w) (hs:Step γ H w γ' H' w') (h3:∀ r ∈ rs,w.heap.size≤r∧∀ k o,γ'.loc k ≠ some (r,o))
  (k1:w2.os=w'.os) (k2:w2.tape=w'.tape) (k3:w2.output=w'.output) (k4:w2.heap.size=w'.heap.size) (k5:∀ i,i ∉ rs→w2.heap[i]?=w'.heap[i]?):Step γ H w γ' H' w2:=by
 have hh2:HR γ' H'.get w2:=hs.hr.off (by omega) (fun k b o hl=>k5 b fun hb=>(h3 b hb).2 k o hl) (fun b hb=>k5 b fun hbm=>by
  have h1:=(h3 b hbm).1
  have h2:=hs.le.B
  have h3:=hh.base
  omega)
 refine ⟨hs.n,hs.le,hs.out,hh2,hs.iJ.off k1 k2 k3 (by omega) fun b hb=>k5 b fun hbm=>?_⟩
 have:=(h3 b hbm).1
 omega
theorem CallsDIn.mono' {F:Fence} {n:Nat} {P:Program} {f:FuncId} {args:Array Value} {u:FrameMode} {w:World} {R R':Ending→FrameMode→World→Prop} (h:CallsDIn F n P f args u w R) (hr:∀ e u' w',R e u' w'→R' e u' w'):CallsDIn F n P f args u w R' :=
 ⟨h.1,fun c cs hu hroom=>let ⟨e,u',w',fr,r,rest⟩:=h.2 c cs hu hroom;⟨e,u',w',fr,hr _ _ _ r,rest⟩⟩
theorem CO (hT : bO T) (hK : aO rec) (hS : bF T rec m) (hD : jU T rec) {f : FuncId} {args : List Value} {hp : Hp} {L : List fQ} (h : pG T rec f args hp = some L) :
    (∃ fn c, T.P.funcs[f]? = some fn ∧ (fn.name == "runtime.NumGoroutine") = false ∧ fn.body = some c) ∧
    ∀ γ w args' N, Wf hp → HR γ hp.get w → cP γ hp.n N → (∀ r ∈ L, r.hp.n ≤ N) → cB γ args args' → CallsIn (FW none) 0 T.P f args'.toArray w (rG γ hp w L) := by
  obtain ⟨fn, c, R, h1, h2, h3, h4⟩ := sw h
  obtain ⟨q1, q2, q3⟩ := hT.Ee f fn h1
  refine ⟨⟨fn, c, q1, q2, h2⟩, fun γ w args' N hw hh hf hN ha => ?_⟩
  refine callsIn_of_wp_marks (F := FW none) q1 h2 trivial ?_ rfl
  have hsub : ∀ p ∈ R, ∃ M, mj T fn.results.toList p = some M ∧ ∀ q ∈ M, q ∈ L := fun p hpm => bA h4 p hpm
  have hcl : ∀ p ∈ R, ∃ g, cC p.2.2 [] = some g := fun p hpm => by
    obtain ⟨M, e1, _⟩ := hsub p hpm
    obtain ⟨pv, hp', vs, _, e3, _⟩ := mV e1
    obtain ⟨g, as, _, _, _, _, e4, _⟩ := qh e3
    exact ⟨_, e4⟩
  have hR : ∀ p ∈ R, p.2.1.hp.n ≤ N := fun p hpm => by
    obtain ⟨M, e1, e2⟩ := hsub p hpm
    obtain ⟨pv, hp', vs, _, e3, _, rfl⟩ := mV e1
    exact Nat.le_trans (vv e3).n (hN _ (e2 _ (List.mem_singleton_self _)))
  have hok : codeOk (args'.toArray ++ Array.replicate (fn.ntmps - args'.toArray.size) undef).size c = true := mW (by simp; omega) (q3 c h2)
  have hpre : Pre γ ⟨setArgs .leaf 0 args, hp, false⟩ { tmps := args'.toArray ++ Array.replicate (fn.ntmps - args'.toArray.size) undef, defers := [] } w none ⟨w.heap.size, []⟩ :=
    ⟨uu.args ha _, hh, rfl, s8.nil _ _ ⟨_, []⟩, hw, fun b hb => (by cases hb)⟩
  refine Go.wpIn_mono (CN hT hK hS hD c _ R h3 hcl hpre hok hf hR (Nat.le_refl _)) fun e a' w' hq => ?_
  obtain ⟨p, hpm, γ', d, clo', n1, ds1, g1, g2, g3, g4, g5, g6, g7, g8, g9⟩ := hq
  obtain ⟨M, e1, e2⟩ := hsub p hpm
  obtain ⟨pv, hp3, vs, hpv, e3, e4, rfl⟩ := mV e1
  have hmem := e2 _ (List.mem_singleton_self _)
  have key : ∀ u, u ≠ .run → FK γ' pv u → LeavesInM (FW none) 0 T.P fn a'.tmps (rG γ hp w L) a'.defers u w' := by
    intro u hu hmd
    obtain ⟨rs', d1, d2, d3⟩ := g4.df
    obtain ⟨rs, f1, f2, f3⟩ := g5
    rw [List.append_nil] at f1
    have hsep : ∀ r ∈ rs, r < n1 := fun r hr => g6 r (by rw [f1]; exact List.mem_map.2 ⟨r, hr, rfl⟩)
    rw [d1]
    refine kz (γ := γ') hu rs' w' d2 (fun r hr => ⟨(d3 r hr).2.1, (d3 r hr).2.2⟩) fun w2 k1 k2 k3 k4 k5 => ?_
    have s2 : Step γ hp w γ' p.2.1.hp w2 := Step.Np hh g9 (fun r hr => ⟨Nat.le_trans g7 (d3 r hr).1, (d3 r hr).2.2⟩) k1 k2 k3 k4 k5
    have hdf2 : s8 γ' w2 ⟨w.heap.size, []⟩ ds1 := ⟨rs, by rw [f1, List.append_nil], f2, fun r hr => ⟨(f3 r hr).1, by
      rw [k5 r fun hm => by
        have h1 : n1 ≤ r := (d3 r hm).1
        have h2 := hsep r hr
        omega]
      exact (f3 r hr).2.1, (f3 r hr).2.2⟩⟩
    obtain ⟨fv, cap, g, as, r1, r2, r3⟩ := GR hT e3 g2 s2.hr g4.wf (g9.fresh hf) (hN _ hmem) hmd (g3 w2)
    refine ⟨hu, .inr ⟨fun h => Bool.noConfusion h, fv, cap, g, as, r1, r2, fun _ _ => trivial, ?_⟩⟩
    refine CallsDIn.mono' r3 fun e u' w3 hq => ?_
    obtain ⟨v, γ3, rfl, hm3, s3⟩ := hq
    show LeavesInM (FW none) 0 T.P fn a'.tmps (rG γ hp w L) ds1 (settle u') w3
    rw [hm3.settle]
    obtain ⟨rs3, x1, x2, x3⟩ := hdf2.step s3
    rw [x1]
    refine kz (γ := γ3) (by simp) rs3 w3 x2 (fun r hr => ⟨(x3 r hr).2.1, (x3 r hr).2.2⟩) fun w4 y1 y2 y3 y4 y5 => ?_
    have s4 : Step γ hp w γ3 hp3 w4 := Step.Np hh (s2.trans s3) (fun r hr => ⟨(x3 r hr).1, (x3 r hr).2.2⟩) y1 y2 y3 y4 y5
    obtain ⟨v', z1, z2⟩ := qT hT s4.hr (g4.fr.mono s3.le) e4
    exact ⟨v', z1, bE vs, hp3, v', γ3, hmem, rfl, z2, s4⟩
  obtain ⟨x, s, clo⟩ := p
  rcases hpv with ⟨rfl, hx | hx⟩ | ⟨v, rfl, hx⟩
  · simp only at hx
    subst hx
    obtain rfl : e = .normal := g1
    exact key .returning (by simp) .ret
  · simp only at hx
    subst hx
    obtain rfl : e = .ret := g1
    exact key .returning (by simp) .ret
  · simp only at hx
    subst hx
    obtain ⟨v', rfl, hv⟩ := g1
    exact key (.panicking [{ v := v', recovered := false }]) (by simp) (.fG hv)
end
end Go.RM
namespace Go.RM
open Go
section
variable {T : bM} {rec : pR → Option (List fQ)} {m : Nat}
theorem EA (hT : bO T) (hK : aO rec) (hS : bF T rec m) (hD : jU T rec) {f : FuncId} {args : List Value} {hp : Hp} {L : List fQ} (h : jv T rec (.call f args hp) = some L) :
    (∃ fn c, T.P.funcs[f]? = some fn ∧ (fn.name == "runtime.NumGoroutine") = false ∧ fn.body = some c) ∧
    ∀ γ w args' N, Wf hp → HR γ hp.get w → cP γ hp.n N → (∀ r ∈ L, r.hp.n ≤ N) → cB γ args args' → CallsIn (FW none) 0 T.P f args'.toArray w (rG γ hp w L) := by
  rcases pK h with ⟨fn, c, R, h1, h2, h3, h4⟩ | h
  rotate_left
  · exact CO hT hK hS hD h
  obtain ⟨q1, q2, q3⟩ := hT.fn f fn h1
  refine ⟨⟨fn, c, q1, q2, h2⟩, fun γ w args' N hw hh hf hN ha => ?_⟩
  refine callsIn_of_wp_marks (F := FW none) q1 h2 trivial ?_ rfl
  have hsub : ∀ p ∈ R, ∃ M, fZ T fn.results.toList p = some M ∧ ∀ q ∈ M, q ∈ L := fun p hpm => bA h4 p hpm
  have hR : ∀ p ∈ R, p.2.hp.n ≤ N := by
    intro p hpm
    obtain ⟨M, e1, e2⟩ := hsub p hpm
    obtain ⟨_, vs, _, rfl⟩ := oB e1
    exact hN _ (e2 _ (List.mem_singleton_self _))
  have hok : codeOk (args'.toArray ++ Array.replicate (fn.ntmps - args'.toArray.size) undef).size c = true := mW (by simp; omega) (q3 c h2)
  have hpre : Pre γ ⟨setArgs .leaf 0 args, hp, false⟩ { tmps := args'.toArray ++ Array.replicate (fn.ntmps - args'.toArray.size) undef, defers := [] } w none ⟨w.heap.size, []⟩ :=
    ⟨uu.args ha _, hh, rfl, s8.nil _ _ ⟨_, []⟩, hw, fun b hb => (by cases hb)⟩
  refine Go.wpIn_mono (kM hT hK hS hD.1 c _ R h3 hpre hok hf hR (Nat.le_refl _)) fun e a' w' hq => ?_
  obtain ⟨p, hpm, γ', he, hp', hsz, hs⟩ := hq
  obtain ⟨M, e1, e2⟩ := hsub p hpm
  obtain ⟨hne, vs, hvs, rfl⟩ := oB e1
  have hmem := e2 _ (List.mem_singleton.2 rfl)
  have key : LeavesInM (FW none) 0 T.P fn a'.tmps (rG γ hp w L) a'.defers .returning w' := by
    obtain ⟨rs, d1, d2, d3⟩ := hp'.df
    rw [d1, List.append_nil]
    refine Bj (γ := γ') rs w' d2 (fun r hr => ⟨(d3 r hr).2.1, (d3 r hr).2.2⟩) fun w2 k1 k2 k3 k4 k5 => ?_
    have hh2 : HR γ' p.2.hp.get w2 := hp'.hr.off (by omega) (fun k b o hl => k5 b fun hb => (d3 b hb).2.2 k o hl) (fun b hb => k5 b fun hbm => by
      have h1 : w.heap.size ≤ b := (d3 b hbm).1
      have h2 := hs.le.B
      have h3 := hh.base
      omega)
    obtain ⟨v', r1, r2⟩ := qT hT hh2 hp'.fr hvs
    refine ⟨v', r1, bE vs, p.2.hp, v', γ', hmem, rfl, r2, hs.n, hs.le, hs.out, hh2, hs.iJ.off k1 k2 k3 (by omega) fun b hb => k5 b fun hbm => ?_⟩
    have : w.heap.size ≤ b := (d3 b hbm).1
    omega
  obtain ⟨e', s⟩ := p
  simp only at he hne
  subst he
  rcases hne with rfl | rfl
  · exact key
  · exact key
theorem CP (hT:bO T) (hK:aO rec) (hS:bF T rec m) (hD:jU T rec) {l:Nat} {args:List Value} {hp:Hp} {L:List fQ} (h:jv T rec (.round l args hp)=some L)
  (γ:Gm) (w:World) (args':List Value) (N b:Nat) (hw:Wf hp) (hl:γ.loc l=some (b,0)) (hh:HR γ hp.get w) (hf:cP γ hp.n N) (hN:∀ r ∈ L,r.hp.n≤N) (ha:cB γ args args') :
  ∃ r:Loop,w.heap[b]?=some (.loop r)∧args'.length=r.params.size ∧
   RoundIn (FW none) 0 T.P b r.fn ((r.params.zip args'.toArray).foldl (fun tmps (t,a)=>tmps.setIfInBounds t a) r.tmps) r.assign r.body w (rG γ hp w L):=by
 obtain ⟨pend,fr,ps,as,bd,R,h1,h2,h3,h4⟩:=nL h
 obtain ⟨_,r,r1,r2,r3,r4,r5,r6,r7,r8,r9,r10⟩:=hh.s9 h1 hl
 subst r4 r5 r6
 refine ⟨r,r1,ha.1.symm.trans h2,?_⟩
 refine roundIn_of_wpIn (F:=FW none) trivial ?_
 have hz:(r.params.zip args'.toArray).foldl (fun tmps (t,a)=>tmps.setIfInBounds t a) r.tmps=(r.params.toList.zip args').foldl (fun tmps (t,a)=>tmps.setIfInBounds t a) r.tmps:=by
  rw [←Array.foldl_toList,Array.toList_zip]
 rw [hz]
 have hlen:r.params.toList.length=args'.length:=by rw [Array.length_toList];exact (ha.1.symm.trans h2).symm
 obtain ⟨f1,f2⟩:=CC (γ:=γ) (r.params.toList.zip args) (r.params.toList.zip args') fr r.tmps r7 (by simp [ha.1]) fun i p p' x y=>by
  rw [List.getElem?_zip_eq_some] at x y
  obtain ⟨x1,x2⟩:=x
  obtain ⟨y1,y2⟩:=y
  rw [x1] at y1
  simp only [Option.some.injEq] at y1
  exact ⟨y1,ha.2 i _ _ x2 y2,by rw [←y1];exact r10 _ (by have:=List.mem_of_getElem? x1;simpa using this)⟩
 have hsub:∀ p ∈ R,∃ M,dH T rec l r.body p=some M∧∀ q ∈ M,q ∈ L:=fun p hpm=>bA h4 p hpm
 have endN:∀ {q:Exit × St} {M:List fQ},ir l q=some M→(∀ x ∈ M,x ∈ L)→q.2.hp.n≤N:=by
  intro q M e1 e2
  obtain ⟨_,_,_,_,_,_,_,e3⟩:=mq e1
  rcases e3 with ⟨_,rfl⟩|⟨_,rfl⟩|⟨_,_,rfl⟩ <;> exact hN _ (e2 _ (List.mem_singleton_self _))
 have hR:∀ p ∈ R,p.2.hp.n≤N:=by
  intro p hpm
  obtain ⟨M,e1,e2⟩:=hsub p hpm
  obtain ⟨_,_,_,_,_,_,R2,_,e4,e5⟩:=jQ e1
  have hg:=iV hK _ _ _ e4
  have:(p.2.hp.put l _).n≤N:=Good.le hg fun q hq=>by
   obtain ⟨M',x1,x2⟩:=bA e5 q hq
   exact endN x1 fun x hx=>e2 x (x2 x hx)
  exact this
 have hpre:Pre γ ⟨fE fr (r.params.toList.zip args),hp,true⟩ {tmps:=(r.params.toList.zip args').foldl (fun tmps (t,a)=>tmps.setIfInBounds t a) r.tmps,defers:=[]} w (some b) ⟨w.heap.size,[]⟩:=⟨f1,hh,rfl,s8.nil _ _ ⟨_,[]⟩,hw,fun b hb=>(by cases hb;exact ⟨l,hl,by rw [h1];rfl⟩)⟩
 refine Go.wpIn_mono (kM hT hK hS hD.1 r.assign _ R h3 hpre (by rw [f2];exact r8) hf hR (Nat.le_refl _)) fun e a1 w1 hq=>?_
 obtain ⟨p,hpm,γ1,he,hp1,hsz,hs⟩:=hq
 obtain ⟨M,e1,e2⟩:=hsub p hpm
 obtain ⟨hn,pend1,fr1,ps1,as1,OM,R2,e3,e4,e5⟩:=jQ e1
 rw [hn] at he
 subst he
 have hl1:=hs.le.loc _ _ hl
 obtain ⟨_,q,q1,q2,q3,_⟩:=hp1.hr.s9 e3 hl1
 have hs2:=Step.Bi (s':=.busy) (pend':=pend1) hp1.hr e3 hl1 q1
 have hbr:=run_beginRound (P:=T.P) q1 q2
 have hweq:w1.putObj b (.loop {q with state:=.busy})=w1.putObj b (.loop {q with state:=.busy,pending:=pend1}):=by rw [←q3]
 rw [hweq] at hbr
 refine ⟨_,hbr,?_⟩
 have hs12:=hs.trans hs2
 have hpre2:Pre γ1 ⟨p.2.fr,p.2.hp.put l (.loop .busy pend1 fr1 ps1 as1 OM),true⟩ a1 (w1.putObj b (.loop {q with state:=.busy,pending:=pend1})) (some b) ⟨w.heap.size,[]⟩ :=
  ⟨hp1.fr,hs2.hr,rfl,hp1.df.step hs2,(dL.put p.2.hp _ _ (by rw [e3];simp) (fun _=>rfl)).wf hp1.wf,fun b hb=>(by cases hb;exact ⟨l,hl1,by rw [Hp.lH,if_pos rfl];rfl⟩)⟩
 have hsz':a1.tmps.size=r.tmps.size:=hsz.trans f2
 refine Go.wpIn_mono (kM hT hK hS hD.1 r.body _ R2 e4 hpre2 (by rw [hsz'];exact r9) (hs12.fresh hf) (fun x hx=>by
  obtain ⟨M',x1,x2⟩:=bA e5 x hx
  exact endN x1 fun y hy=>e2 y (x2 y hy)) hs12.iJ.size) fun e a2 w2 hq2=>?_
 obtain ⟨p2,hpm2,γ2,he2,hp2,hsz2,hs3⟩:=hq2
 obtain ⟨M2,x1,x2⟩:=bA e5 p2 hpm2
 obtain ⟨st4,pend4,fr4,ps4,as4,bd4,y1,y2⟩:=mq x1
 have hl2:=hs3.le.loc _ _ hl1
 obtain ⟨_,t,t1,_⟩:=hp2.hr.s9 y1 hl2
 obtain ⟨e6,s6⟩:=p2
 simp only at he2 y2
 subst he2
 have fin:∀ (jump:Option Code) (s':LoopState) (bo:Bool),s'=(if jump.isNone then .ready else .done)→bo=jump.isNone→(fQ.ret (.bool bo) (s6.hp.put l (.loop s' jump fr4 ps4 as4 bd4))) ∈ L →
   ∃ v w',(Instr.endRound b jump).run T.P w2=.ok v w'∧rG γ hp w L (.returned v) w':=by
  intro jump s' bo hs' hbo hmem
  subst hs' hbo
  refine ⟨_,_,run_endRound jump t1,.bool jump.isNone,_,.bool jump.isNone,γ2,hmem,rfl,.flat rfl,?_⟩
  exact (hs12.trans hs3).trans (Step.Bi hp2.hr y1 hl2 t1)
 rcases y2 with ⟨rfl,rfl⟩|⟨rfl,rfl⟩|⟨id,rfl,rfl⟩
 ·exact fin none .ready true rfl rfl (e2 _ (x2 _ (List.mem_singleton_self _)))
 ·exact fin (some .ret) .done false rfl rfl (e2 _ (x2 _ (List.mem_singleton_self _)))
 ·exact fin (some (.exit id)) .done false rfl rfl (e2 _ (x2 _ (List.mem_singleton_self _)))
theorem EB (hT:bO T) (hK:aO rec) (hS:bF T rec m) (hD:jU T rec) {c:Code} {st:St} {Lr:List fQ} (h:jv T rec (.loop c st)=some Lr)
  (L:List (Exit × St)) (hL:∀ r ∈ Lr,∃ p ∈ L,r=.out p.1 p.2) (γ:Gm) (w:World) (a:Act) (rd:Option Nat) (N0:NB) (N:Nat) (hp:Pre γ st a w rd N0) (hc:codeOk a.tmps.size c=true) (hf:cP γ st.hp.n N)
  (hN:∀ r ∈ Lr,r.hp.n≤N) (h0:N0.n≤w.heap.size):Code.roundsIn (FW rd) 0 T.P c (kK γ st.hp w a.tmps.size rd N0 L) (m+1) a w:=by
 obtain ⟨R,h1,h2⟩:=pL h
 have hsub:∀ p ∈ R,∃ M,fF rec c p=some M∧∀ q ∈ M,q ∈ Lr:=fun p hpm=>bA h2 p hpm
 have hR:∀ p ∈ R,p.2.hp.n≤N:=by
  intro p hpm
  obtain ⟨M,e1,e2⟩:=hsub p hpm
  rcases mw e1 with ⟨_,e3⟩|⟨_,rfl⟩
  ·exact Good.le (hK _ _ e3) fun q hq=>hN q (e2 q hq)
  ·exact hN _ (e2 _ (List.mem_singleton_self _))
 rw [roundsIn_succ]
 refine Go.wpIn_mono (kM hT hK hS hD.1 c st R h1 hp hc hf hR h0) fun e a1 w1 hq=>?_
 obtain ⟨p,hpm,γ1,he,hp1,hsz,hs⟩:=hq
 obtain ⟨M,e1,e2⟩:=hsub p hpm
 rcases mw e1 with ⟨e3,e4⟩|⟨e3,rfl⟩
 ·rw [e3] at he
  subst he
  have:=hS.loop c p.2 M e4 L (fun r hr=>hL r (e2 r hr)) γ1 w1 a1 rd N0 N hp1 (by rw [hsz];exact hc) (hs.fresh hf) (fun r hr=>hN r (e2 r hr)) (Nat.le_trans h0 hs.iJ.size)
  rw [hsz] at this
  show Code.roundsIn _ _ _ _ _ _ _ _
  have mono:∀ k a' w',Code.roundsIn (FW rd) 0 T.P c (kK γ1 p.2.hp w1 a.tmps.size rd N0 L) k a' w'→Code.roundsIn (FW rd) 0 T.P c (kK γ st.hp w a.tmps.size rd N0 L) k a' w':=by
   intro k
   induction k with
   | zero=>intro a' w' h;exact h
   | succ k ih =>
    intro a' w' h
    rw [roundsIn_succ] at h ⊢
    refine Go.wpIn_mono h fun e a2 w2 hq=>?_
    cases e with
    | normal=>exact ih _ _ hq
    | _=>exact kK.trans hs hq fun _ h=>h
  exact mono _ _ _ this
 ·obtain ⟨q,hq,hqe⟩:=hL _ (e2 _ (List.mem_singleton_self _))
  obtain ⟨e',s⟩:=p
  simp only at he e3 hqe
  subst he
  cases hqe
  have:kK γ st.hp w a.tmps.size rd N0 L q.1 a1 w1:=⟨q,hq,γ1,rfl,hp1,hsz,hs⟩
  revert e3
  generalize q.1=e0 at this
  intro e3
  cases e0 <;> first|exact absurd rfl e3|exact this
theorem EC (hT:bO T) (hK:aO rec) (hS:bF T rec m) (hD:jU T rec):bF T (jv T rec) (m+1) :=
 ⟨fun _ _ _ _ h=>EA hT hK hS hD h,fun _ _ _ _ h=>CP hT hK hS hD h,fun _ _ _ h=>EB hT hK hS hD h⟩
end
end Go.RM
namespace Go.RM
open Go
abbrev ord (b:List Nat) (i j:Nat):Prop:=(b.getD j 0).testBit i=true
def Cl (l:List Oper) (D:Nat→Bool):Prop:=∀ (j:Nat) (o:Oper),l[j]?=some o→D j=true→∀ e ∈ o.after.toList,Region.binds .any e=true→D e.on=true
theorem GS {acc:List Nat} {D:Nat→Bool} (hacc:∀ j,D j=true→∀ i,(acc.getD j 0).testBit i=true→D i=true):∀ (l:List Edge),(∀ e ∈ l,Region.binds .any e=true→D e.on=true) →
  ∀ i,(wP acc l).testBit i=true→D i=true:=by
 intro l
 induction l with
 | nil=>intro _ i h;simp [wP] at h
 | cons e l ih =>
  intro hl i h
  have ih':=ih (fun e he=>hl e (List.mem_cons_of_mem _ he)) i
  have hp:wP acc (e :: l)=cond (Region.binds .any e) (wP acc l ||| 2 ^ e.on ||| acc.getD e.on 0) (wP acc l):=rfl
  rw [hp] at h
  cases hb:Region.binds .any e with
  | false=>rw [hb] at h;exact ih' h
  | true =>
   rw [hb] at h
   simp only [cond_true,Nat.testBit_or,Bool.or_eq_true,Nat.testBit_two_pow,decide_eq_true_eq] at h
   have hd:=hl e (by simp) hb
   rcases h with (h|h)|h
   ·exact ih' h
   ·rw [←h];exact hd
   ·exact hacc _ hd i h
theorem Ic {D:Nat→Bool}:∀ (l:List Oper) (acc:List Nat),(∀ (j:Nat) (o:Oper),l[j]?=some o→D (acc.length+j)=true→∀ e ∈ o.after.toList,Region.binds .any e=true→D e.on=true) →
  (∀ j,D j=true→∀ i,(acc.getD j 0).testBit i=true→D i=true)→∀ j,D j=true→∀ i,((Ml l acc).getD j 0).testBit i=true→D i=true:=by
 intro l
 induction l with
 | nil=>intro acc _ h;exact h
 | cons o l ih =>
  intro acc hcl hacc
  refine ih _ (fun j o' ho' hD=>hcl (j+1) o' ho' (by rw [List.length_append] at hD;rw [show acc.length+(j+1)=acc.length+[wP acc o.after.toList].length+j by simp;omega];exact hD)) fun j hD i hi=>?_
  rw [List.getD_eq_getElem?_getD,List.getElem?_append] at hi
  split at hi
  ·rw [←List.getD_eq_getElem?_getD] at hi;exact hacc j hD i hi
  ·rename_i hlt
   by_cases hj:j=acc.length
   ·subst hj
    simp only [Nat.sub_self,List.getElem?_cons_zero,Option.getD_some] at hi
    exact GS hacc _ (fun e he=>hcl 0 o rfl hD e he) i hi
   ·rw [List.getElem?_eq_none (by simp;omega)] at hi
    simp at hi
theorem jV {ops:Array Oper} {D:Nat→Bool} (h:Cl ops.toList D) {i j:Nat} (ho:ord (rI ops) i j) (hj:D j=true):D i=true :=
 Ic ops.toList [] (fun j o hjo hD=>h j o hjo (by simpa using hD)) (fun j _ i hi=>by simp at hi) j hj i ho
theorem zX {ops:Array Oper} {b:List Nat}:∀ {l:List (Oper × Nat)},FH ops b l=true→∀ (i j:Nat) (x y:Oper × Nat),i < j→l[i]?=some x→l[j]?=some y→x.1.apart ops y.1=true∨ord b x.2 y.2:=by
 intro l
 induction l with
 | nil=>intro _ i j x y _ h;cases h
 | cons z l ih =>
  intro h i j x y hij hi hj
  obtain ⟨zo,zi⟩:=z
  simp only [FH,Bool.and_eq_true,List.all_eq_true] at h
  cases j with
  | zero=>omega
  | succ j =>
   cases i with
   | zero =>
    cases hi
    have:=h.1 y (List.mem_of_getElem? hj)
    obtain ⟨yo,yj⟩:=y
    simp only [Bool.or_eq_true] at this
    exact this
   | succ i=>exact ih h.2 i j x y (by omega) hi hj
theorem CQ {T:bM} {b:List Nat}:∀ {l:List Ev},fW T b l=true→∀ (i j:Nat) (t s:Ev),i < j→l[i]?=some t→l[j]?=some s→conflict s.t t.t=true→ord b s.t.idx t.t.idx∨spare T s t=true:=by
 intro l
 induction l with
 | nil=>intro _ i j x y _ h;cases h
 | cons z l ih =>
  intro h i j t s hij hi hj hc
  simp only [fW,Bool.and_eq_true,List.all_eq_true] at h
  cases j with
  | zero=>omega
  | succ j =>
   cases i with
   | zero =>
    cases hi
    have:=h.1 s (List.mem_of_getElem? hj)
    rw [hc] at this
    simp only [Bool.not_true,Bool.false_or,Bool.or_eq_true] at this
    exact this
   | succ i=>exact ih h.2 i j t s (by omega) hi hj hc
def oF {β:Type} (f:Ev→β→β):List Ev→(Nat→Bool)→Nat→β→β
 | [],_,_,x=>x
 | ev :: es,D,i,x=>oF f es D (i+1) (if D i=true then f ev x else x)
section
variable {β : Type} {f : Ev → β → β}
theorem nN:∀ (es:List Ev) (D D':Nat→Bool) (i:Nat) (x:β),(∀ j ev,es[j]?=some ev→D (i+j) ≠ D' (i+j)→∀ x,f ev x=x)→oF f es D i x=oF f es D' i x:=by
 intro es
 induction es with
 | nil=>intros;rfl
 | cons ev es ih =>
  intro D D' i x h
  have e:(if D i=true then f ev x else x)=(if D' i=true then f ev x else x):=by
   by_cases hd:D i=D' i
   ·rw [hd]
   ·rw [h 0 ev rfl hd x];simp
  rw [oF,oF,e]
  exact ih D D' (i+1) _ fun j ev' hj hd=>h (j+1) ev' hj (by rw [show i+(j+1)=i+1+j by omega];exact hd)
theorem sy (es:List Ev) (D:Nat→Bool) (i:Nat) (x:β) (h:∀ j ev,es[j]?=some ev→D (i+j)=true→∀ x,f ev x=x):oF f es D i x=x:=by
 have:oF f es D i x=oF f es (fun _=>false) i x:=nN es _ _ i x fun j ev hj hd=>h j ev hj (by simpa using hd)
 rw [this]
 clear this h
 induction es generalizing i with
 | nil=>rfl
 | cons ev es ih=>rw [oF];simpa using ih (i+1)
theorem FL:∀ (es:List Ev) (D D':Nat→Bool) (i j:Nat) (ev:Ev) (x:β),es[j]?=some ev→D (i+j)=false→D' (i+j)=true→(∀ m,m ≠ i+j→D' m=D m) →
  (∀ m ev',j < m→es[m]?=some ev'→D (i+m)=true→∀ x,f ev' x=x)→oF f es D' i x=f ev (oF f es D i x):=by
 intro es
 induction es with
 | nil=>intro D D' i j ev x h;cases h
 | cons z es ih =>
  intro D D' i j ev x hj h1 h2 h3 h4
  cases j with
  | zero =>
   cases hj
   rw [Nat.add_zero] at h1 h2
   rw [oF,oF,h1,h2]
   simp only [if_true,Bool.false_eq_true,if_false]
   rw [sy es D (i+1) x fun m ev' hm hd=>h4 (m+1) ev' (by omega) hm (by rw [show i+(m+1)=i+1+m by omega];exact hd)]
   refine sy es D' (i+1) _ fun m ev' hm hd=>h4 (m+1) ev' (by omega) hm ?_
   rw [show i+(m+1)=i+1+m by omega,←h3 _ (by omega)];exact hd
  | succ j =>
   rw [oF,oF,h3 i (by omega)]
   refine ih D D' (i+1) j ev _ hj (by rw [show i+1+j=i+(j+1) by omega];exact h1) (by rw [show i+1+j=i+(j+1) by omega];exact h2) (fun m hm=>h3 m (by omega)) fun m ev' hm hm' hd=>h4 (m+1) ev' (by omega) hm' ?_
   rw [show i+(m+1)=i+1+m by omega];exact hd
theorem xA (es:List Ev) (D D':Nat→Bool) (i j:Nat) (ev:Ev) (x:β) (hj:es[j]?=some ev) (h3:∀ m,m ≠ i+j→D' m=D m) (hf:∀ x,f ev x=x):oF f es D' i x=oF f es D i x :=
 nN es D' D i x fun m ev' hm hd=>by
  by_cases hmj:m=j
  ·subst hmj;rw [hj] at hm;cases hm;exact hf
  ·exact absurd (h3 (i+m) (by omega)) hd
end
section
variable {T : bM} {rec : pR → Option (List fQ)}
def ED (T:bM) (_rec:pR→Option (List fQ)) (ops:Array Oper) (i:Nat) (ev:Ev):Prop :=
 (bx ops.toList ev.st.fr ev.o.guard=false∧ev.v=undef∧ev.hp=ev.st.hp∧ev.t=⟨i,[],[],false,ev.st.hp.n,ev.st.hp.n⟩) ∨
 (bx ops.toList ev.st.fr ev.o.guard=true∧∃ rec',aO rec'∧cM T rec' ev.o.op i ev.st=some (ev.v,ev.hp,ev.t))
def Nl (T:bM) (rec:pR→Option (List fQ)) (ops:Array Oper) (i:Nat) (ev:Ev):Prop:=bx ops.toList ev.st.fr ev.o.guard=true→cM T rec ev.o.op i ev.st=some (ev.v,ev.hp,ev.t)
noncomputable def Ev.after (ev:Ev):St:=⟨dR ev.st.fr ev.o.dst ev.v,ev.hp,ev.st.rd⟩
def dO (T:bM) (rec:pR→Option (List fQ)) (ops:Array Oper):List Ev→Nat→St→St→Prop
 | [],_,st,st'=>st'=st
 | ev :: es,i,st,st'=>ev.st=st∧ED T rec ops i ev∧dO T rec ops es (i+1) ev.after st'
theorem qj (hK:aO rec) (ops:Array Oper):∀ (l:List Oper) (i:Nat) (st:St) (acc:List Ev) (L:List St),cR T rec ops l i st acc=some L →
  ∃ es st',L=[st']∧dO T rec ops es i st st'∧es.map (·.o)=l∧fX T ops (es.reverse++acc)=true∧∀ j ev,es[j]?=some ev→Nl T rec ops (i+j) ev:=by
 intro l
 induction l with
 | nil =>
  intro i st acc L h
  rw [iu] at h
  cases hc:fX T ops acc with
  | false=>rw [hc] at h;cases h
  | true=>rw [hc] at h;simp at h;exact ⟨[],st,h.symm,rfl,rfl,hc,fun j ev hj=>by cases hj⟩
 | cons o l ih =>
  intro i st acc L h
  rw [dB] at h
  cases hg:bx ops.toList st.fr o.guard with
  | false =>
   rw [hg] at h
   simp only [cond_false] at h
   obtain ⟨es,st',h1,h2,h3,h4,h5⟩:=ih _ _ _ _ h
   refine ⟨⟨o,st,undef,st.hp,⟨i,[],[],false,st.hp.n,st.hp.n⟩⟩ :: es,st',h1,⟨rfl,.inl ⟨hg,rfl,rfl,rfl⟩,h2⟩,by simp [h3],by simpa using h4,fun j ev hj=>?_⟩
   cases j with
   | zero=>cases hj;intro hg';rw [hg] at hg';cases hg'
   | succ j=>rw [show i+(j+1)=i+1+j by omega];exact h5 j ev hj
  | true =>
   rw [hg] at h
   simp only [cond_true] at h
   cases hd:cM T rec o.op i st with
   | none=>rw [hd] at h;cases h
   | some p =>
    obtain ⟨v,hp,t⟩:=p
    rw [hd] at h
    obtain ⟨es,st',h1,h2,h3,h4,h5⟩:=ih _ _ _ _ h
    refine ⟨⟨o,st,v,hp,t⟩ :: es,st',h1,⟨rfl,.inr ⟨hg,rec,hK,hd⟩,h2⟩,by simp [h3],by simpa using h4,fun j ev hj=>?_⟩
    cases j with
    | zero=>cases hj;exact fun _=>hd
    | succ j=>rw [show i+(j+1)=i+1+j by omega];exact h5 j ev hj
theorem wm (hK:aO rec) (ops:Array Oper) (K:St→List Ev→Option (List St)):∀ (l:List Oper) (i:Nat) (st:St) (acc:List Ev) (L:List St),ij T rec ops l K i st acc=some L →
  ∃ es st',K st' (es.reverse++acc)=some L∧dO T rec ops es i st st'∧es.map (·.o)=l∧dL st.hp st'.hp∧∀ j ev,es[j]?=some ev→Nl T rec ops (i+j) ev:=by
 intro l
 induction l with
 | nil =>
  intro i st acc L h
  exact ⟨[],st,h,rfl,rfl,.refl _,fun j ev hj=>by cases hj⟩
 | cons o l ih =>
  intro i st acc L h
  rw [jx] at h
  cases hg:bx ops.toList st.fr o.guard with
  | false =>
   rw [hg] at h
   simp only [cond_false] at h
   obtain ⟨es,st',h1,h2,h3,hkk,h5⟩:=ih _ _ _ _ h
   refine ⟨⟨o,st,undef,st.hp,⟨i,[],[],false,st.hp.n,st.hp.n⟩⟩ :: es,st',by simpa using h1,⟨rfl,.inl ⟨hg,rfl,rfl,rfl⟩,h2⟩,by simp [h3],hkk,fun j ev hj=>?_⟩
   cases j with
   | zero=>cases hj;intro hg';rw [hg] at hg';cases hg'
   | succ j=>rw [show i+(j+1)=i+1+j by omega];exact h5 j ev hj
  | true =>
   rw [hg] at h
   simp only [cond_true] at h
   cases hd:cM T rec o.op i st with
   | none=>rw [hd] at h;cases h
   | some p =>
    obtain ⟨v,hp,t⟩:=p
    rw [hd] at h
    obtain ⟨es,st',h1,h2,h3,hkk,h5⟩:=ih _ _ _ _ h
    refine ⟨⟨o,st,v,hp,t⟩ :: es,st',by simpa using h1,⟨rfl,.inr ⟨hg,rec,hK,hd⟩,h2⟩,by simp [h3],(mR hK hd).trans hkk,fun j ev hj=>?_⟩
    cases j with
    | zero=>cases hj;exact fun _=>hd
    | succ j=>rw [show i+(j+1)=i+1+j by omega];exact h5 j ev hj
noncomputable def Ev.at (k:Nat) (ev:Ev) (x:Option bG):Option bG:=if k ∈ ev.t.wr∨(ev.t.a≤k∧k < ev.t.b) then ev.hp.get k else x
def Ev.tm (t:Tmp) (ev:Ev) (x:Option Value):Option Value:=if ev.o.dst=some t then some ev.v else x
theorem ED.facts {ops:Array Oper} {i:Nat} {ev:Ev} (h:ED T rec ops i ev) (_hK:aO rec) (hw:Wf ev.st.hp) :
  ev.t.idx=i∧ev.t.a=ev.st.hp.n∧ev.t.b=ev.hp.n∧ev.st.hp.n≤ev.hp.n∧Wf ev.hp∧∀ k,k ∉ ev.t.wr→¬ (ev.t.a≤k∧k < ev.t.b)→ev.hp.get k=ev.st.hp.get k:=by
 rcases h with ⟨_,_,h2,h3⟩|⟨_,rec',hK,h⟩
 ·rw [h3,h2];exact ⟨rfl,rfl,rfl,Nat.le_refl _,hw,fun _ _ _=>rfl⟩
 ·have hk:=mR hK h
  refine ⟨?_,?_,?_,hk.n,hk.wf hw,?_⟩
  all_goals (unfold cM at h;split at h)
  ·split at h
   ·split at h
    ·rename_i v' hp' hj
     have e:=Option.some.inj h
     simp only [mg,Prod.mk.injEq] at e
     rw [←e.2.2]
    ·cases h
   ·cases h
  ·cases h
  ·split at h
   ·simp only [Option.some.injEq,Prod.mk.injEq] at h;rw [←h.2.2]
   ·cases h
  ·split at h
   ·split at h
    ·rename_i v' hp' hj
     have e:=Option.some.inj h
     simp only [mg,Prod.mk.injEq] at e
     rw [←e.2.2]
    ·cases h
   ·cases h
  ·cases h
  ·split at h
   ·simp only [Option.some.injEq,Prod.mk.injEq] at h;rw [←h.2.2]
   ·cases h
  ·split at h
   ·split at h
    ·rename_i v' hp' hj
     have e:=Option.some.inj h
     simp only [mg,Prod.mk.injEq] at e
     rw [←e.2.2,←e.2.1]
    ·cases h
   ·cases h
  ·cases h
  ·split at h
   ·simp only [Option.some.injEq,Prod.mk.injEq] at h;rw [←h.2.2,←h.2.1]
   ·cases h
  ·split at h
   ·rename_i g _
    split at h
    ·rename_i v' hp' hj
     have e:=Option.some.inj h
     simp only [mg,Prod.mk.injEq] at e
     ·have hkk:=hK _ _ hj
      rw [sZ] at hkk
      have hkk:=hkk.2 _ (List.mem_singleton.2 rfl)
      intro k hwr hnr
      rw [←e.2.2] at hnr hwr
      rw [←e.2.1]
      simp only at hnr hwr
      by_cases hlt:k < ev.st.hp.n
      ·exact hkk.same k hlt (Kn hwr hlt)
      ·have e1:hp'.get k=none:=hkk.wf hw k (show hp'.n≤k by omega)
       have e2:ev.st.hp.get k=none:=hw k (by omega)
       rw [e2];exact e1
    ·cases h
   ·cases h
  ·cases h
  ·split at h
   ·rename_i r wr v' e htch hop
    simp only [Option.some.injEq,Prod.mk.injEq] at h
    intro k hwr hnr
    rw [←h.2.2] at hwr hnr
    rw [←h.2.1]
    simp only at hwr hnr
    obtain ⟨q1,q2⟩:=xe htch
    have hin:=(qS hop).2 q1
    rw [q2] at hin
    cases e with
    | none=>rfl
    | new b=>rw [show ev.st.hp.app (.new b)=ev.st.hp.push b from rfl,Hp.fI,if_neg (fun e=>hnr ⟨by omega,by rw [qi];simp [cG.news];omega⟩)]
    | put k' b=>rw [show ev.st.hp.app (.put k' b)=ev.st.hp.put k' b from rfl,Hp.lH,if_neg (fun e=>hwr (by rw [e];exact hin))]
    | app k' b =>
     rw [show ev.st.hp.app (.app k' b)=(ev.st.hp.put k' .dead).push b from rfl,Hp.fI,if_neg (fun e=>hnr ⟨by
      have:(ev.st.hp.put k' .dead).n=ev.st.hp.n:=rfl
      omega,by
      have:(ev.st.hp.put k' .dead).n=ev.st.hp.n:=rfl
      rw [qi];simp [cG.news];omega⟩),Hp.lH,if_neg (fun e=>hwr (by rw [e];exact hin))]
   ·cases h
theorem dO.get {ops:Array Oper} (hK:aO rec):∀ {es:List Ev} {i:Nat} {st st':St},dO T rec ops es i st st'→Wf st.hp→∀ (j:Nat) (ev:Ev),es[j]?=some ev →
  ED T rec ops (i+j) ev∧Wf ev.st.hp∧st.hp.n≤ev.st.hp.n∧ev.hp.n≤st'.hp.n∧ev.st.rd=st.rd ∧
   (∀ k,ev.st.hp.get k=oF (Ev.at k) es (fun m=>decide (m < i+j)) i (st.hp.get k))∧(∀ t,ev.st.fr.get t=oF (Ev.tm t) es (fun m=>decide (m < i+j)) i (st.fr.get t)):=by
 intro es
 induction es with
 | nil=>intro i st st' _ _ j ev h;cases h
 | cons z es ih =>
  intro i st st' hc hw j ev hj
  obtain ⟨rfl,h2,h3⟩:=hc
  obtain ⟨f1,f2,f3,f4,f5,f6⟩:=h2.facts hK hw
  have hn':∀ {es:List Ev} {i:Nat} {st st':St},dO T rec ops es i st st'→Wf st.hp→st.hp.n≤st'.hp.n:=by
   intro es
   induction es with
   | nil=>intro i st st' h _;rw [show st'=st from h];exact Nat.le_refl _
   | cons z es ih =>
    intro i st st' h hw
    obtain ⟨rfl,h2,h3⟩:=h
    obtain ⟨_,_,_,q4,q5,_⟩:=h2.facts hK hw
    exact Nat.le_trans q4 (ih h3 q5)
  cases j with
  | zero =>
   cases hj
   refine ⟨h2,hw,Nat.le_refl _,hn' h3 f5,rfl,fun k=>?_,fun t=>?_⟩
   ·exact (sy _ _ _ _ fun m ev' hm hd=>by have:=of_decide_eq_true hd;omega).symm
   ·exact (sy _ _ _ _ fun m ev' hm hd=>by have:=of_decide_eq_true hd;omega).symm
  | succ j =>
   obtain ⟨g1,g2,g3,g4,g5,g6,g7⟩:=ih h3 f5 j ev hj
   rw [show i+1+j=i+(j+1) by omega] at g1 g6 g7
   refine ⟨g1,g2,Nat.le_trans f4 g3,g4,g5,fun k=>?_,fun t=>?_⟩
   ·rw [g6 k,oF]
    have:decide (i < i+(j+1))=true:=by simp
    rw [if_pos this]
    congr 1
    show z.hp.get k=z.at k (z.st.hp.get k)
    unfold Ev.at
    split
    ·rfl
    ·rename_i hn
     exact f6 k (fun h=>hn (.inl h)) (fun h=>hn (.inr h))
   ·rw [g7 t,oF]
    have:decide (i < i+(j+1))=true:=by simp
    rw [if_pos this]
    congr 1
    show (dR z.st.fr z.o.dst z.v).get t=z.tm t (z.st.fr.get t)
    unfold Ev.tm dR
    cases z.o.dst with
    | none=>rfl
    | some d =>
     rw [Tr.iP]
     by_cases htd:t=d
     ·subst htd;simp
     ·rw [if_neg htd,if_neg (fun e=>htd (by cases e;rfl))]
theorem dO.last {ops:Array Oper} (hK:aO rec):∀ {es:List Ev} {i:Nat} {st st':St},dO T rec ops es i st st'→Wf st.hp→∀ (D:Nat→Bool),(∀ j,j < es.length→D (i+j)=true) →
  (∀ k,st'.hp.get k=oF (Ev.at k) es D i (st.hp.get k))∧(∀ t,st'.fr.get t=oF (Ev.tm t) es D i (st.fr.get t))∧st'.rd=st.rd∧st.hp.n≤st'.hp.n∧Wf st'.hp:=by
 intro es
 induction es with
 | nil=>intro i st st' h hw D _;rw [show st'=st from h];exact ⟨fun _=>rfl,fun _=>rfl,rfl,Nat.le_refl _,hw⟩
 | cons z es ih =>
  intro i st st' hc hw D hD
  obtain ⟨rfl,h2,h3⟩:=hc
  obtain ⟨f1,f2,f3,f4,f5,f6⟩:=h2.facts hK hw
  obtain ⟨g1,g2,g3,g4,g5⟩:=ih h3 f5 D fun j hj=>by rw [show i+1+j=i+(j+1) by omega];exact hD (j+1) (by simp;omega)
  have h0:D i=true:=hD 0 (by simp)
  refine ⟨fun k=>?_,fun t=>?_,g3,Nat.le_trans f4 g4,g5⟩
  ·rw [g1 k,oF,if_pos h0]
   congr 1
   show z.hp.get k=z.at k (z.st.hp.get k)
   unfold Ev.at
   split
   ·rfl
   ·rename_i hn
    exact f6 k (fun h=>hn (.inl h)) (fun h=>hn (.inr h))
  ·rw [g2 t,oF,if_pos h0]
   congr 1
   show (dR z.st.fr z.o.dst z.v).get t=z.tm t (z.st.fr.get t)
   unfold Ev.tm dR
   cases z.o.dst with
   | none=>rfl
   | some d =>
    rw [Tr.iP]
    by_cases htd:t=d
    ·subst htd;simp
    ·rw [if_neg htd,if_neg (fun e=>htd (by cases e;rfl))]
theorem dO.mono {ops:Array Oper} (hK:aO rec):∀ {es:List Ev} {i:Nat} {st st':St},dO T rec ops es i st st'→Wf st.hp→∀ (j m:Nat) (ev ev':Ev),j < m→es[j]?=some ev→es[m]?=some ev'→ev.hp.n≤ev'.st.hp.n:=by
 intro es
 induction es with
 | nil=>intro i st st' _ _ j m ev ev' _ h;cases h
 | cons z es ih =>
  intro i st st' hc hw j m ev ev' hjm hj hm
  obtain ⟨rfl,h2,h3⟩:=hc
  obtain ⟨f1,f2,f3,f4,f5,f6⟩:=h2.facts hK hw
  cases m with
  | zero=>omega
  | succ m =>
   cases j with
   | zero =>
    cases hj
    exact (dO.get hK h3 f5 m ev' hm).2.2.1
   | succ j=>exact ih h3 f5 j m ev ev' (by omega) hj hm
end
end Go.RM
