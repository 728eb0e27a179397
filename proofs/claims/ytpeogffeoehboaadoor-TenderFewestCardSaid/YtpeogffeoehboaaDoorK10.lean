/-
  Contracts of the program's functions and of the document's. Lemmas alone; their conditions stand in them.
-/
import Derived.Test.YtpeogffeoehboaaDoorA1
import Derived.Test.YtpeogffeoehboaaDoorA3
import Derived.Test.YtpeogffeoehboaaDoorK7
import Derived.Test.YtpeogffeoehboaaDoorK8
import Derived.Test.YtpeogffeoehboaaDoorK9
open Go Go.RM
namespace Go.Proofs.YtpeogffeoehboaaDoor
set_option maxRecDepth 100000
set_option maxHeartbeats 4000000
theorem EI:∀ l:List Order,(gk l).all AV.one=true
 | []=>rfl
 | _ :: l=>EI l
theorem Q7 {T:bz} {fr:Nat→AV} {hp:List AB} {K:AV→List AB→Prop} {s x:Operand} {t u e:TypeId} {a1 a2 a3 a4 a5 a6} {els:List (List AV)} {j aB n c es:Nat} {cs:List AV} {inf:rX} (hs:aO fr s=.sl [] true) (hx:aO fr x=.bO j aB 0 n c)
  (hu:T.ty.get u=some ⟨.slice e,a1,a2,a3,a4,a5,a6⟩) (hi:elem? T t=some inf) (hz:bk inf=true) (hj:hp[j]?=some (.cells cs es aB)) (hl:0+n * inf.size≤cs.length) (hn:els.length=n) (hel:∀ el ∈ els,el.length=inf.size) (hf:els.flatten=(cs.drop 0).take (n * inf.size)) (h1:els.flatten.all AV.one=true) (hne:els ≠ [])
  (hb:n * inf.bytes≤140737488355328∧n≤9223372036854775807) (hk:K (.bO hp.length 0 0 n (n+1)) (hp++[.cells els.flatten inf.size 0])) :
  RM.wpOp T true (.call ⟨.builtin .append,[s,x].toArray,[t,u].toArray⟩) fr hp K:=by
 subst hn
 show force (aO fr s) fun a=>force (aO fr x) fun b=>gw T true .append [a,b] [t,u] hp K
 rw [hs,hx]
 show (match T.ty.get u with|some ⟨.slice _,_,_,_,_,_,_⟩=>gv T true t (.sl [] true) (.bO j aB 0 els.length c) hp K|_=>False)
 rw [hu]
 show gv T true t (.sl [] true) (.bO j aB 0 els.length c) hp K
 unfold gv
 rw [hi]
 refine ⟨hz,els,⟨hel,cs,es,hj,hl,rfl,hf⟩,h1,(fun _ h=>by cases h),by simpa using hb,fun e=>absurd e hne,fun _=>?_⟩
 simpa using hk
abbrev eT (P:List Order) (aB:Nat):AB:=.cells (gk P) 2 aB
theorem FI (one:Bool) {P:List Order} (h1:1≤P.length) (h8:P.length≤8) {A0 A1 A2 A3:AB} {aB c:Nat} {aE:bR} {Q:AV→List AB→bR→Prop} (hQ:Q (.bO 5 0 0 P.length (P.length+1)) [A0,A1,A2,A3,eT P aB,eT P 0] aE) :
  av TT TB one (.fn 92 [] []) [.bO 4 aB 0 P.length c] [A0,A1,A2,A3,eT P aB] aE Q:=by
 have hne:P.length ≠ 0:=by omega
 have hcut:=zL P P.length (Nat.le_refl _)
 rw [List.take_length] at hcut
 have hone:((P.map az).flatten).all AV.one=true:=EI P
 have hne2:P.map az ≠ []:=by
  cases P with
  | nil=>simp at h1
  | cons a l=>simp
 refine av.body (fn:=Tryd.f92) rfl rfl rfl ?_
 refine aa (mu:=fun t=>Nat.beq t 7) ?_
 repeat' (first |(refine RM.Qo rfl hne (by kernel_rfl) rfl ?_) |(refine Q7 rfl rfl rfl rfl rfl rfl hcut.1 hcut.2.1 hcut.2.2.1 hcut.2.2.2 hone hne2 ⟨by show P.length * 32≤_;omega,by omega⟩ ?_) |refine u1 ?_ |refine u2 ?_ |fail)
 exact hQ
end Go.Proofs.YtpeogffeoehboaaDoor
open Go Go.RM
namespace Go.Proofs.YtpeogffeoehboaaDoor
set_option maxRecDepth 100000
theorem FJ {P:Program} (d:Nat) (t:TypeId) (xs ys:Array Value) (ht:P.underlying t=some (.struct (P.fieldsOf t))) (hp:P.stoodInHeld t=false) :
  aD P (Op.equalIn (d+1) t (.agg xs) (.agg ys))=aD P (Op.eqFields d xs ys (P.fieldsOf t).toList):=by
 have hu:aD P (underlying t)=some (.struct (P.fieldsOf t)):=zH ht
 have hg:aD P program=some P:=rfl
 simp only [Op.equalIn,bH,hu,hg,hp,Option.bind_some,Bool.false_eq_true,if_false]
 rw [←Array.forIn_toList]
 generalize (P.fieldsOf t).toList=fs
 clear ht hu
 induction fs with
 | nil=>rfl
 | cons f fs ih =>
  simp only [List.forIn_cons,Op.eqFields,bH]
  split
  ·simp only [bH]
   cases aD P (part f.type xs f.offset) with
   | none=>rfl
   | some a =>
    simp only [Option.bind_some]
    cases aD P (part f.type ys f.offset) with
    | none=>rfl
    | some b =>
     simp only [Option.bind_some]
     cases aD P (Op.equalIn d f.type a b) with
     | none=>rfl
     | some r =>
      cases r
      ·rfl
      ·exact ih
  ·exact ih
theorem vJ {P : Program} {e : TypeId} {k : IntKind} (he : P.underlying e = some (.int k)) (xs : Array Value) (off : Nat) (v : Value) (h : xs[off]? = some v) : aD P (part e xs off) = some v := by
  unfold part isAgg
  rw [bH, bH, zH he]
  show aD P (match xs[off]? with | some v => pure v | none => stuck "part: no such cell") = some v
  rw [h]
  rfl
theorem zM {P:Program} (d:Nat) {e:TypeId} {k:IntKind} (he:P.underlying e=some (.int k)) (a b:Int):aD P (Op.equalIn (d+1) e (.int k a) (.int k b))=some (a == b):=by
 rw [Op.equalIn,bH,zH he]
 cases k <;> rfl
theorem Qw {α:Type}:∀ {l:List α},l.length=3→∃ a b c,l=[a,b,c]
 | [a,b,c],_=>⟨a,b,c,rfl⟩
abbrev Key:=Int × Int × Int
def lD (x:Key):Value:=.agg #[.int .u64 x.1,.int .i64 x.2.1,.int .i64 x.2.2]
abbrev zN (x:Key):AV:=.ag [.fl (.int .u64 x.1),aC x.2.1,aC x.2.2]
theorem Qx:aD TT.P (underlying 92)=some (.struct (TT.P.fieldsOf 92)):=zH (by kernel_rfl)
theorem OA (k x : Key) : aD TT.P (Op.equalIn 10000 92 (lD k) (lD x)) = some (decide (k = x)) := by
  obtain ⟨a, b, c⟩ := k
  obtain ⟨a', b', c'⟩ := x
  unfold lD
  rw [FJ 9999 92 _ _ (by kernel_rfl) (by kernel_rfl)]
  have hl : (TT.P.fieldsOf 92).toList.length = 3 := by kernel_rfl
  have hf : ((TT.P.fieldsOf 92).toList.map fun f => (f.name != "_", f.type, f.offset)) = [(true, 79, 0), (true, 3, 1), (true, 3, 2)] := by kernel_rfl
  obtain ⟨f0, f1, f2, e⟩ := Qw hl
  rw [e] at hf ⊢
  simp only [List.map_cons, List.map_nil, List.cons.injEq, Prod.mk.injEq, and_true, bne_iff_ne] at hf
  obtain ⟨⟨n0, t0, o0⟩, ⟨n1, t1, o1⟩, n2, t2, o2⟩ := hf
  have u79 : TT.P.underlying 79 = some (.int .u64) := by kernel_rfl
  have u3 : TT.P.underlying 3 = some (.int .i64) := by kernel_rfl
  have p0 := fun xs v h => vJ u79 xs 0 v h
  have p1 := fun xs v h => vJ u3 xs 1 v h
  have p2 := fun xs v h => vJ u3 xs 2 v h
  simp only [Op.eqFields, n0, n1, n2, ne_eq, not_false_eq_true, if_true, t0, t1, t2, o0, o1, o2, bH]
  rw [p0 #[.int .u64 a, .int .i64 b, .int .i64 c] (.int .u64 a) rfl, p0 #[.int .u64 a', .int .i64 b', .int .i64 c'] (.int .u64 a') rfl]
  simp only [Option.bind_some]
  rw [zM 9998 u79]
  simp only [Option.bind_some]
  by_cases e0 : a = a'
  · subst e0
    simp only [beq_self_eq_true, Bool.not_true, Bool.false_eq_true, if_false, bH]
    rw [p1 #[.int .u64 a, .int .i64 b, .int .i64 c] (.int .i64 b) rfl, p1 #[.int .u64 a, .int .i64 b', .int .i64 c'] (.int .i64 b') rfl]
    simp only [Option.bind_some]
    rw [zM 9998 u3]
    simp only [Option.bind_some]
    by_cases e1 : b = b'
    · subst e1
      simp only [beq_self_eq_true, Bool.not_true, Bool.false_eq_true, if_false, bH]
      rw [p2 #[.int .u64 a, .int .i64 b, .int .i64 c] (.int .i64 c) rfl, p2 #[.int .u64 a, .int .i64 b, .int .i64 c'] (.int .i64 c') rfl]
      simp only [Option.bind_some]
      rw [zM 9998 u3]
      simp only [Option.bind_some]
      by_cases e2 : c = c'
      · subst e2
        simp [dR]
      · have : (c == c') = false := by rw [beq_eq_false_iff_ne]; exact e2
        rw [this]
        simp [dR, e2]
    · have : (b == b') = false := by rw [beq_eq_false_iff_ne]; exact e1
      rw [this]
      simp [dR, e1]
  · have : (a == a') = false := by rw [beq_eq_false_iff_ne]; exact e0
    rw [this]
    simp [dR, e0]
theorem EJ (k:Key):∀ (ks:List Key) (es:List MapEntry) (j:Nat),es.map (·.key)=ks.map lD →
  (aD TT.P (Instr.findAsking 92 (lD k) es j)).map (fun r=>r.map (·.1))=some ((ks.findIdx? (fun x=>decide (k=x))).map (·+j))
 | [],[],j,_=>rfl
 | [],e :: es,j,h=>by cases h
 | x :: ks,[],j,h=>by cases h
 | x :: ks,e :: es,j,h=>by
  rw [List.map_cons,List.map_cons,List.cons.injEq] at h
  have ih:=EJ k ks es (j+1) h.2
  have he:aD TT.P (Op.equal 92 (lD k) e.key)=some (decide (k=x)):=by
   rw [h.1]
   exact OA k x
  unfold Instr.findAsking
  rw [bH,he,Option.bind_some,List.findIdx?_cons]
  by_cases hx:k=x
  ·rw [decide_eq_true hx]
   simp [dR]
  ·rw [decide_eq_false hx]
   simp only [Bool.false_eq_true,if_false]
   rw [ih]
   cases ks.findIdx? fun x=>decide (k=x) with
   | none=>rfl
   | some a=>simp;omega
theorem K0 (b:Bool) (k:Key):aD TT.P (Instr.checkKey b 10000 92 (lD k))=some ():=by
 obtain ⟨x,y,z⟩:=k
 cases b <;> kernel_rfl
theorem B4 (b:Bool) (k:Key) (ks:List Key):Ef TT b 92 (lD k) (ks.map lD) (ks.findIdx? fun x=>decide (k=x)):=by
 intro es he
 have hall:(es.all fun e=>flat e.key)=true:=by
  rw [List.all_eq_true]
  intro e hm
  have:e.key ∈ ks.map lD:=by rw [←he];exact List.mem_map.2 ⟨e,hm,rfl⟩
  obtain ⟨x,_,hx⟩:=List.mem_map.1 this
  rw [←hx]
  rfl
 unfold mA
 rw [show flat (lD k)=true from rfl,hall,K0 b k]
 simp only [Bool.and_self,cond_true]
 have hf:=EJ k ks (es.map fun e=>{e with val:=.nilIface}) 0 (by rw [List.map_map];exact he)
 rw [show aD TT.P (Instr.findKey 92 (lD k) (es.map fun e=>{e with val:=.nilIface}))=aD TT.P (Instr.findAsking 92 (lD k) (es.map fun e=>{e with val:=.nilIface}) 0) by
  unfold Instr.findKey
  rw [bH,Qx,Option.bind_some]
  have hn:∀ (es:List MapEntry) (n:Nat),es ≠ []→Instr.findNow (.struct (TT.P.fieldsOf 92)) (lD k) es n=none:=by
   intro es n hne
   cases es with
   | nil=>exact absurd rfl hne
   | cons e es=>rfl
  cases hes:es.map fun e=>{e with val:=Value.nilIface} with
  | nil=>rfl
  | cons e l=>rw [hn (e :: l) 0 (by simp)]]
 rw [hf]
 cases ks.findIdx? fun x=>decide (k=x) <;> rfl
theorem JN (k:Key):Instr.sameBits 10000 (lD k) (lD k)=true:=by
 obtain ⟨a,b,c⟩:=k
 show (IntKind.u64 == IntKind.u64 && a == a && ((IntKind.i64 == IntKind.i64 && b == b) && ((IntKind.i64 == IntKind.i64 && c == c) && true)))=true
 simp
abbrev mM:=Key × Int × Nat
abbrev aH (E:List mM):List (AV × AV × Nat):=E.map fun x=>(zN x.1,aC x.2.1,x.2.2)
def mJ (B:Int) (E:List mM):Prop:=∀ x ∈ E,0≤x.2.1∧x.2.1≤B
theorem mJ.mono {B C:Int} {E:List mM} (h:mJ B E) (hc:B≤C):mJ C E:=fun x hx=>⟨(h x hx).1,Int.le_trans (h x hx).2 hc⟩
theorem rU:∀ E:List mM,nk (aH E)=some ((E.map (·.1)).map lD)
 | []=>rfl
 | x :: E=>by
  show (match (zN x.1).fS,nk (aH E) with|some v,some vs=>some (v :: vs)|_,_=>none)=_
  rw [rU E]
  rfl
section
variable {own : Bool} {fr : Nat → AV} {hp : List AB} {K : AV → List AB → Prop} {m k : Operand} {j : Nat} {key : Key} {E : List mM} {clock : Nat} {B : Int}
def wR (key:Key) (E:List mM):Int:=match E.findIdx? (fun x=>decide (key=x.1)) with
 | some i=>(E[i]?.map fun x=>x.2.1).getD 0
 | none=>0
def mj (key:Key) (E:List mM) (clock:Nat):List mM:=match E.findIdx? (fun x=>decide (key=x.1)) with
 | some _=>E
 | none=>E++[(key,0,clock)]
def EK (key:Key) (E:List mM) (clock:Nat):Nat:=match E.findIdx? (fun x=>decide (key=x.1)) with
 | some i=>(E[i]?.map fun x=>x.2.2).getD 0
 | none=>clock
def Dz (key:Key) (E:List mM) (clock:Nat):Nat:=match E.findIdx? (fun x=>decide (key=x.1)) with
 | some _=>clock
 | none=>clock+1
theorem OB (key:Key) (hB:mJ B E) (h0:0≤B):0≤wR key E∧wR key E≤B:=by
 unfold wR
 cases h:E.findIdx? (fun x=>decide (key=x.1)) with
 | none=>exact ⟨Int.le_refl _,h0⟩
 | some i =>
  rw [List.findIdx?_eq_some_iff_getElem] at h
  obtain ⟨hi,_⟩:=h
  dsimp only
  rw [List.getElem?_eq_getElem hi]
  exact hB _ (List.getElem_mem hi)
theorem FK (key:Key) (hB:mJ B E) (h0:0≤B) (clock:Nat):mJ B (mj key E clock):=by
 unfold mj
 cases E.findIdx? (fun x=>decide (key=x.1)) with
 | some i=>exact hB
 | none =>
  intro x hx
  rcases List.mem_append.1 hx with hx|hx
  ·exact hB x hx
  ·rw [List.mem_singleton.1 hx];exact ⟨Int.le_refl _,h0⟩
theorem DA (key:Key) (E:List mM) (clock:Nat):wR key (mj key E clock)=wR key E:=by
 unfold wR mj
 cases h:E.findIdx? (fun x=>decide (key=x.1)) with
 | some i=>simp only [h]
 | none =>
  have:(E++[(key,(0:Int),clock)]).findIdx? (fun x=>decide (key=x.1))=some E.length:=by
   rw [List.findIdx?_append,h]
   simp
  simp only [this]
  rw [List.getElem?_append_right (Nat.le_refl _),Nat.sub_self]
  rfl
theorem FL (key:Key) (E:List mM) (clock:Nat):∃ x ∈ mj key E clock,x.2.2=EK key E clock:=by
 unfold mj EK
 cases h:E.findIdx? (fun x=>decide (key=x.1)) with
 | none=>exact ⟨_,List.mem_append.2 (.inr (List.mem_singleton.2 rfl)),rfl⟩
 | some i =>
  rw [List.findIdx?_eq_some_iff_getElem] at h
  obtain ⟨hi,_⟩:=h
  exact ⟨_,List.getElem_mem hi,by dsimp only;rw [List.getElem?_eq_getElem hi];rfl⟩
theorem MG (hm:aO fr m=.om j) (hk:aO fr k=zN key) (hj:hp[j]?=some (.map (aH E) clock)) (hK:K (aC (wR key E)) hp):RM.wpOp TT own (.lookup 124 m k false) fr hp K:=by
 show k9 TT 124 (aO fr m) (aO fr k) false hp K
 rw [hm,hk]
 refine ⟨_,_,_,lD key,92,.int .i64 0,_,hj,rU E,rfl,by kernel_rfl,B4 _ key _,?_⟩
 rw [List.findIdx?_map]
 unfold wR at hK
 show match E.findIdx? (fun x=>decide (key=x.1)) with|some i=>_|none=>_
 cases h:E.findIdx? (fun x=>decide (key=x.1)) with
 | none =>
  rw [h] at hK
  exact ⟨rfl,hK⟩
 | some i =>
  rw [h] at hK
  rw [List.findIdx?_eq_some_iff_getElem] at h
  obtain ⟨hi,_⟩:=h
  simp only [List.getElem?_eq_getElem hi] at hK
  exact ⟨(zN E[i].1,aC E[i].2.1,E[i].2.2),by rw [List.getElem?_map,List.getElem?_eq_getElem hi];rfl,hK⟩
theorem OC (hm:aO fr m=.om j) (hk:aO fr k=zN key) (hj:hp[j]?=some (.map (aH E) clock))
  (hK:K (.tp [aC (wR key E),aC (EK key E clock:Nat)]) (hp.set j (.map (aH (mj key E clock)) (Dz key E clock)))):RM.wpOp TT own (.mapEntry 124 m k) fr hp K:=by
 show fF TT 124 (aO fr m) (aO fr k) hp K
 rw [hm,hk]
 refine ⟨_,_,_,lD key,92,.int .i64 0,_,hj,rU E,rfl,by kernel_rfl,B4 _ key _,?_⟩
 rw [List.findIdx?_map]
 unfold wR EK mj Dz at hK
 show match E.findIdx? (fun x=>decide (key=x.1)) with|some i=>_|none=>_
 cases h:E.findIdx? (fun x=>decide (key=x.1)) with
 | none =>
  rw [h] at hK
  refine ⟨rfl,?_⟩
  simp only at hK
  rw [show aH (E++[(key,0,clock)])=aH E++[(zN key,aC 0,clock)] by unfold aH;rw [List.map_append];rfl] at hK
  exact hK
 | some i =>
  rw [h] at hK
  rw [List.findIdx?_eq_some_iff_getElem] at h
  obtain ⟨hi,hx,_⟩:=h
  have hx:key=E[i].1:=of_decide_eq_true hx
  have hg:(aH E)[i]?=some (zN E[i].1,aC E[i].2.1,E[i].2.2):=by rw [List.getElem?_map,List.getElem?_eq_getElem hi];rfl
  simp only [List.getElem?_eq_getElem hi] at hK
  refine ⟨_,hg,⟨lD E[i].1,rfl,by rw [hx];exact JN _⟩,?_⟩
  rw [hx,Bv hg]
  exact hK
theorem OD {s v:Operand} {n:Int} {t:TypeId} {born:Nat} (hm:aO fr m=.om j) (hs:aO fr s=aC (born:Nat)) (hv:aO fr v=aC n) (hj:hp[j]?=some (.map (aH E) clock)) (hB:mJ B E) (hn:0≤n∧n≤B+1) (hb:∃ x ∈ E,x.2.2=born)
  (hK:∀ E':List mM,mJ (B+1) E'→K .bP (hp.set j (.map (aH E') clock))):RM.wpOp TT own (.entryStore t m s v) fr hp K:=by
 show dW (aO fr m) (aO fr s) (aO fr v) hp K
 rw [hm,hs,hv]
 cases hf:((aH E).map fun p=>((p.2.2:Nat):Int)).findIdx? (· == (born:Int)) with
 | none =>
  exfalso
  rw [List.findIdx?_eq_none_iff] at hf
  obtain ⟨x,hx,e⟩:=hb
  have:=hf ((x.2.2:Nat):Int) (List.mem_map.2 ⟨_,List.mem_map.2 ⟨x,hx,rfl⟩,rfl⟩)
  rw [e] at this
  simp at this
 | some i =>
  have hi:i < E.length:=by
   rw [List.findIdx?_eq_some_iff_getElem] at hf
   obtain ⟨h,_⟩:=hf
   simpa using h
  have hg:(aH E)[i]?=some (zN E[i].1,aC E[i].2.1,E[i].2.2):=by rw [List.getElem?_map,List.getElem?_eq_getElem hi];rfl
  refine ⟨_,_,_,i,_,hj,rfl,hf,hg,?_⟩
  have:=hK (E.set i (E[i].1,n,E[i].2.2)) (fun x hx=>by
   rcases List.mem_or_eq_of_mem_set hx with hx|rfl
   ·exact ⟨(hB x hx).1,by have:=(hB x hx).2;omega⟩
   ·exact hn)
  rw [show aH (E.set i (E[i].1,n,E[i].2.2))=(aH E).set i (zN E[i].1,aC n,E[i].2.2) by unfold aH;rw [List.map_set]] at this
  exact this
end
end Go.Proofs.YtpeogffeoehboaaDoor
open Go Go.RM
namespace Go.Proofs.YtpeogffeoehboaaDoor
set_option maxRecDepth 100000
set_option maxHeartbeats 4000000
abbrev rV (R:List Nat):List (List AV):=R.map fun f=>[eF f]
theorem qI (R:List Nat):(0:Nat)+R.length * 1≤(R.map eF).length∧(rV R).length=R.length∧(∀ el ∈ rV R,el.length=1)∧(rV R).flatten=((R.map eF).drop 0).take (R.length * 1) :=
 ⟨by rw [List.length_map];omega,by simp,fun el hel=>by obtain ⟨o,_,rfl⟩:=List.mem_map.1 hel;rfl,by
  rw [List.drop_zero,List.take_of_length_le (by rw [List.length_map];omega)]
  induction R with
  | nil=>rfl
  | cons a l ih=>show eF a :: (rV l).flatten=_;rw [ih];rfl⟩
theorem B5:∀ R:List Nat,cK (rV R).flatten=true
 | []=>rfl
 | _ :: l=>B5 l
theorem FM (R:List Nat) (f:Nat):R.map eF++[[eF f]].flatten=(R++[f]).map eF:=by rw [List.map_append];rfl
theorem JO (one:Bool) {s:ai} (hg:Good s):Pu one 82 [.ag (ay s)] (.sl (rV (aI s)) false):=by
 have h3:=hg.len
 have hld:=hg.load
 have hp8:2 ^ s.needs.length≤2 ^ 3:=Nat.pow_le_pow_right (by decide) h3.2
 have hp1:1≤2 ^ s.needs.length:=Nat.one_le_two_pow
 have hl8:(s.needs.map aR).length < 8:=by rw [List.length_map];omega
 have hpe:2 ^ (s.needs.map aR).length=2 ^ s.needs.length:=by rw [List.length_map]
 have eg:((s.needs.map aR).length:Int)=s.needs.length:=by simp
 obtain ⟨nn,hnn⟩:∃ n:Int,n=s.needs.length:=⟨_,rfl⟩
 have hfin:∀ S:List Nat,kF S (jd s (2 ^ s.needs.length - 1)).length→S.Perm (jd s (2 ^ s.needs.length - 1))→S=aI s:=fun S h1 h2=>Dv hg h2.length_eq h1 h2
 refine ah.body (fn:=Tryd.f82) rfl rfl rfl rfl ?_
 refine RM.dH (mu:=fun _=>false) ?_
 repeat' (first |refine u1 ?_ |refine u2 ?_ |fail)
 refine aA.scope ?_
 refine RM.dH (mu:=fun _=>false) ?_
 repeat' (first |refine u1 ?_ |refine u2 ?_ |fail)
 refine aA.seq ?_
 refine RM.dH (mu:=fun _=>false) ?_
 repeat' (first |refine u1 ?_ |refine u2 ?_ |fail)
 refine aA.block ?_
 refine aA.aU (ak.trans (ak.vj 1) (ak.OY (l:=[(1,.pt (ay s) 0),(2,.bO 0 0 0 (([]:List Nat)).length 0),(3,fU (0+1))]) (hp:=[jV [] 0]) 1 rfl ⟨cw.refl _,cw.vi,cw.refl _,trivial⟩ (Nat.zero_le _) rfl (eE _ _))) ?_
 refine aA.loop (fun x:Nat × Nat × Nat=>x.1+1≤2 ^ s.needs.length∧(x.2.2=(jd s x.1).length∨x.2.2=(jd s x.1).length+1)) (fun x=>⟨bu [(1,.pt (ay s) 0),(2,.bO 0 x.2.1 0 ((jd s x.1)).length x.2.2),(3,fU (x.1+1))],[jV (jd s x.1) x.2.1],bR.none,false,0⟩) (fun x=>8 - x.1) ?_ (0,0,0) ⟨hp1,.inl rfl⟩
 rintro ⟨k,aB,c⟩ ⟨hk,hc⟩
 dsimp only at hk hc
 have hln:=B1 (s:=s) k
 have hsc:=ow (s:=s) (k:=k)
 have hlast:k+1=2 ^ s.needs.length→jd s k=jd s (2 ^ s.needs.length - 1):=fun e=>by rw [←e];rfl
 have hmR:∀ f ∈ jd s k,1≤f∧f < 8:=fun f hf=>by have:=(nD.1 hf).1;omega
 show aA _ _ _ _ ⟨bu [(1,.pt (ay s) 0),(2,.bO 0 aB 0 ((jd s k)).length c),(3,fU (k+1))],[jV (jd s k) aB],bR.none,false,0⟩ _
 generalize jd s k=R at *
 by_cases hlt:k+1 < 2 ^ s.needs.length
 ·have d1:decide (((k+1:Nat):Int) < ((2 ^ (s.needs.map aR).length:Nat):Int))=true:=decide_eq_true (by rw [hpe];omega)
  obtain ⟨hvl,hvi⟩:=xZ (f:=k+1) hlt (by omega)
  have ol:=zI one (f:=k+1) (by omega)
  have hfu:k+1 < 18446744073709551615:=by omega
  have ow1:=vt one hg (aL (k+1)) false hvl hvi
  have ow2:=vt true hg (aL (k+1)) false hvl hvi
  have hwb:=Ew hg (aL (k+1))
  generalize hW:oO s (aL (k+1))=W at *
  by_cases hw:W≤s.load
  ·have d2:decide (s.load < W)=false:=decide_eq_false (by omega)
   refine RM.dH (mu:=fun _=>false) ?_
   repeat' (first |((with_reducible show aJ _ _ _ _ _ _ _ _ _);refine RM.Ex rfl rfl hl8 ?_) |((with_reducible show aJ _ _ _ _ _ _ _ _ _);refine RM.Js rfl rfl ?_) |refine u1 ?_ |refine u2 ?_ |fail)
   refine aA.seq ?_
   refine aA.block ?_
   refine RM.dH (mu:=fun _=>false) ?_
   repeat' (first |refine u1 ?_ |((with_reducible show av _ _ _ _ _ _ _ _);refine ah.call ol rfl rfl ?_) |refine u2 ?_ |fail)
   refine RM.dH (mu:=fun _=>false) ?_
   repeat' (first |refine u1 ?_ |refine u2 ?_ |fail)
   refine aA.seq ?_
   refine RM.dH (mu:=fun _=>false) ?_
   repeat' (first |refine u1 ?_ |refine u2 ?_ |fail)
   refine aA.block ?_
   refine aA.aU (ak.to (l:=[(1,.pt (ay s) 0),(2,.bO 0 aB 0 (R).length c),(3,fU (k+1)),(4,.sl (ints (aL (k+1))) false),(27,.sl (s.needs.map aR) false),(28,aC nn),(29,aC (0:Nat))]) (hp:=[jV R aB]) 1 rfl ⟨rfl,rfl,rfl,rfl,rfl,bM (by rw [hnn];exact eg),rfl,trivial⟩ (Nat.zero_le _) rfl (eE _ _)) ?_
   refine aA.loop (fun n:Nat=>n≤s.needs.length∧sJ s (k+1) n=true) (fun n=>⟨bu [(1,.pt (ay s) 0),(2,.bO 0 aB 0 (R).length c),(3,fU (k+1)),(4,.sl (ints (aL (k+1))) false),(27,.sl (s.needs.map aR) false),(28,aC nn),(29,aC (n:Nat))],[jV R aB],bR.none,false,0⟩) (fun n=>s.needs.length - n) ?_ 0 ⟨Nat.zero_le _,rfl⟩
   rintro n ⟨hn,hfk⟩
   have hks:=Du (s:=s) (f:=k+1) (k:=n)
   have hke:=fun h=>FE (s:=s) (f:=k+1) (k:=n) h
   rw [hW] at hks hke
   by_cases hnl:n < s.needs.length
   ·have d3:decide ((n:Int) < nn)=true:=decide_eq_true (by omega)
    have hn8:n < 8:=by omega
    have hat:(s.needs.map aR)[((n:Nat):Int).toNat]?=some (aR s.needs[n]):=bY hnl
    have hww:s.needs[n].weight=wP s (n:Nat):=by
     unfold wP
     rw [Int.toNat_natCast,List.getElem?_eq_getElem hnl]
    have hab:=Eu hg (n:Nat)
    have hfm:(k+1) / 2 ^ n < 18446744073709551616:=Nat.lt_of_le_of_lt (Nat.div_le_self _ _) (by omega)
    have hbit:(k+1) / 2 ^ n % 2=if (k+1).testBit n=true then 1 else 0:=by
     rw [Nat.testBit_eq_decide_div_mod_eq]
     have:=Nat.mod_two_eq_zero_or_one ((k+1) / 2 ^ n)
     rcases this with e|e <;> rw [e] <;> simp
    rw [←hww] at hks hke hab
    cases hbt:(k+1).testBit n with
    | true =>
     rw [hbt,if_pos rfl] at hbit
     rw [hbt,hfk] at hks
     have d4:decide (((((k+1) / 2 ^ n % 2:Nat)):Int)=0)=false:=decide_eq_false (by rw [hbit];decide)
     generalize s.needs[n]=g at *
     refine aa (mu:=fun _=>false) ?_
     repeat' (first |((with_reducible show aJ _ _ _ _ _ _ _ _ _);refine RM.vv rfl rfl hn8 ?_) |((with_reducible show aJ _ _ _ _ _ _ _ _ _);refine RM.pF rfl rfl hfm ?_) |((with_reducible show aJ _ _ _ _ _ _ _ _ _);refine RM.Dg rfl rfl ?_) |refine u1 ?_ |((with_reducible show RM.wpOp _ _ (.indexAddr _ _ _) _ _ _);refine ⟨aR g,⟨by omega,hat⟩,rfl,?_⟩) |refine u2 ?_ |fail)
     exact ⟨n+1,⟨hnl,hks⟩,(by dsimp only;omega),ak.to 1 rfl ⟨rfl,rfl,rfl,rfl,rfl,rfl,bM (by simp),trivial⟩ (Nat.zero_le _) rfl (eE _ _)⟩
    | false =>
     rw [hbt,if_neg (by simp)] at hbit
     rw [hbt,hfk,Bool.false_or,Bool.true_and] at hks
     have d4:decide (((((k+1) / 2 ^ n % 2:Nat)):Int)=0)=true:=decide_eq_true (by rw [hbit];decide)
     by_cases hle:W+s.needs[n].weight≤s.load
     ·have d5:=decide_eq_true hle
      have hfb:=hke hnl hbt hle
      have hs0:jd s (k+1)=R:=by rw [hsc,if_neg (by rw [hfb];simp)]
      generalize s.needs[n]=g at *
      refine aa (mu:=fun _=>false) ?_
      repeat' (first |((with_reducible show aJ _ _ _ _ _ _ _ _ _);refine RM.vv rfl rfl hn8 ?_) |((with_reducible show aJ _ _ _ _ _ _ _ _ _);refine RM.pF rfl rfl hfm ?_) |((with_reducible show aJ _ _ _ _ _ _ _ _ _);refine RM.Dg rfl rfl ?_) |((with_reducible show av _ _ _ _ _ _ _ _);refine ah.call ow2 rfl rfl ?_) |refine u1 ?_ |((with_reducible show RM.wpOp _ _ (.indexAddr _ _ _) _ _ _);refine ⟨aR g,⟨by omega,hat⟩,rfl,?_⟩) |refine u2 ?_ |fail)
      refine aa (mu:=fun _=>false) ?_
      repeat' (first |((with_reducible show aJ _ _ _ _ _ _ _ _ _);refine RM.Jt rfl rfl hfu ?_) |refine u1 ?_ |refine u2 ?_ |fail)
      exact ⟨(k+1,aB,c),⟨(by dsimp only;omega),by dsimp only;rw [hs0];exact hc⟩,(by dsimp only;omega),ak.to 1 (by dsimp only;rw [hs0];rfl) ⟨rfl,(by rw [hs0];rfl),rfl,trivial⟩ (Nat.zero_le _) rfl (eE _ _)⟩
     ·have d5:=decide_eq_false hle
      rw [decide_eq_true (by omega)] at hks
      generalize s.needs[n]=g at *
      refine aa (mu:=fun _=>false) ?_
      repeat' (first |((with_reducible show aJ _ _ _ _ _ _ _ _ _);refine RM.vv rfl rfl hn8 ?_) |((with_reducible show aJ _ _ _ _ _ _ _ _ _);refine RM.pF rfl rfl hfm ?_) |((with_reducible show aJ _ _ _ _ _ _ _ _ _);refine RM.Dg rfl rfl ?_) |((with_reducible show av _ _ _ _ _ _ _ _);refine ah.call ow2 rfl rfl ?_) |refine u1 ?_ |((with_reducible show RM.wpOp _ _ (.indexAddr _ _ _) _ _ _);refine ⟨aR g,⟨by omega,hat⟩,rfl,?_⟩) |refine u2 ?_ |fail)
      exact ⟨n+1,⟨hnl,hks⟩,(by dsimp only;omega),ak.to 1 rfl ⟨rfl,rfl,rfl,rfl,rfl,rfl,bM (by simp),trivial⟩ (Nat.zero_le _) rfl (eE _ _)⟩
   ·have d3:decide ((n:Int) < nn)=false:=decide_eq_false (by omega)
    have hfb:lC s (k+1)=true:=by
     unfold lC
     rw [hW,decide_eq_true hw,←show n=s.needs.length by omega,hfk]
     rfl
    have hs1:jd s (k+1)=R++[k+1]:=by rw [hsc,if_pos hfb]
    refine aa (mu:=fun _=>false) ?_
    repeat' (first |refine u1 ?_ |refine u2 ?_ |fail)
    refine aa (mu:=fun _=>false) ?_
    repeat' (first |((with_reducible show RM.wpOp _ _ (.call _) _ _ _);refine RM.Jc (cs:=R.map eF) (n:=R.length) (els:=[[eF (k+1)]]) rfl rfl rfl rfl rfl (fun el hel=>by rw [List.mem_singleton.1 hel];rfl) rfl rfl (by rw [List.length_map];exact (Nat.mul_one _).symm) hc (by simp only [List.length_singleton];omega) (fun v' c' hc'=>?_)) |refine u1 ?_ |refine u2 ?_ |fail)
    refine aa (mu:=fun _=>false) ?_
    repeat' (first |((with_reducible show aJ _ _ _ _ _ _ _ _ _);refine RM.Jt rfl rfl hfu ?_) |refine u1 ?_ |refine u2 ?_ |fail)
    exact ⟨(k+1,v',c'),⟨(by dsimp only;omega),by dsimp only;rw [hs1,List.length_append];exact hc'⟩,(by dsimp only;omega),ak.to 1 (by dsimp only;rw [hs1];show _=[AB.cells ((R++[k+1]).map eF) 1 v'];rw [←FM];rfl) ⟨rfl,(by rw [hs1,List.length_append];rfl),rfl,trivial⟩ (Nat.zero_le _) rfl (eE _ _)⟩
  ·have d2:decide (s.load < W)=true:=decide_eq_true (by omega)
   have hfb:lC s (k+1)=false:=by
    unfold lC
    rw [hW,decide_eq_false hw,Bool.false_and]
   have hs0:jd s (k+1)=R:=by rw [hsc,if_neg (by rw [hfb];simp)]
   refine aa (mu:=fun _=>false) ?_
   repeat' (first |((with_reducible show aJ _ _ _ _ _ _ _ _ _);refine RM.Ex rfl rfl hl8 ?_) |((with_reducible show aJ _ _ _ _ _ _ _ _ _);refine RM.Js rfl rfl ?_) |((with_reducible show aJ _ _ _ _ _ _ _ _ _);refine RM.Jt rfl rfl hfu ?_) |refine u1 ?_ |((with_reducible show av _ _ _ _ _ _ _ _);refine ah.call ol rfl rfl ?_) |refine u2 ?_ |fail)
   exact ⟨(k+1,aB,c),⟨(by dsimp only;omega),by dsimp only;rw [hs0];exact hc⟩,(by dsimp only;omega),ak.to 1 (by dsimp only;rw [hs0];rfl) ⟨rfl,(by rw [hs0];rfl),rfl,trivial⟩ (Nat.zero_le _) rfl (eE _ _)⟩
 ·have d1:decide (((k+1:Nat):Int) < ((2 ^ (s.needs.map aR).length:Nat):Int))=false:=decide_eq_false (by rw [hpe];omega)
  rw [←hlast (by omega)] at hfin
  refine aa (mu:=fun _=>false) ?_
  repeat' (first |((with_reducible show aJ _ _ _ _ _ _ _ _ _);refine RM.Ex rfl rfl hl8 ?_) |((with_reducible show aJ _ _ _ _ _ _ _ _ _);refine RM.Js rfl rfl ?_) |refine u1 ?_ |refine u2 ?_ |fail)
  refine aa (mu:=fun _=>false) ?_
  repeat' (first |(refine Oz _ R R.length rfl (by omega) hmR (fun S hso hpe=>?_)) |refine u1 ?_ |refine u2 ?_ |fail)
  have hSl:S.length=R.length:=hpe.length_eq
  have e:=hfin S hso hpe
  subst e
  rw [←hSl]
  exact ⟨[_],⟨Fz.row (es:=1) rfl (qI _).1 (qI _).2.1 (qI _).2.2.1 (qI _).2.2.2 (B5 _) (fun h=>Bool.noConfusion h),trivial⟩,rfl⟩
end Go.Proofs.YtpeogffeoehboaaDoor
