/-
  Contracts of the program's functions and of the document's. Lemmas alone; their conditions stand in them.
-/
import Derived.Test.YtpeogffeoehboaaDoorA1
import Derived.Test.YtpeogffeoehboaaDoorA3
import Derived.Test.YtpeogffeoehboaaDoorK6
import Derived.Test.YtpeogffeoehboaaDoorK7
import Derived.Test.YtpeogffeoehboaaDoorK8
open Go Go.RM
namespace Go.Proofs.YtpeogffeoehboaaDoor
set_option maxRecDepth 100000
set_option maxHeartbeats 4000000
theorem FD:∀ l:List Order,(gF l).all AV.one=true
 | []=>rfl
 | _ :: l=>FD l
theorem Sm {T:bz} {fr:Nat→AV} {hp:List AB} {K:AV→List AB→Prop} {s x:Operand} {t u e:TypeId} {a1 a2 a3 a4 a5 a6} {els:List (List AV)} {j aB n c es:Nat} {cs:List AV} {inf:rM} (hs:aN fr s=.sl [] true) (hx:aN fr x=.bI j aB 0 n c)
  (hu:T.ty.get u=some ⟨.slice e,a1,a2,a3,a4,a5,a6⟩) (hi:elem? T t=some inf) (hz:bl inf=true) (hj:hp[j]?=some (.cells cs es aB)) (hl:0+n * inf.size≤cs.length) (hn:els.length=n) (hel:∀ el ∈ els,el.length=inf.size) (hf:els.flatten=(cs.drop 0).take (n * inf.size)) (h1:els.flatten.all AV.one=true) (hne:els ≠ [])
  (hb:n * inf.bytes≤140737488355328∧n≤9223372036854775807) (hk:K (.bI hp.length 0 0 n (n+1)) (hp++[.cells els.flatten inf.size 0])) :
  RM.wpOp T true (.call ⟨.builtin .append,[s,x].toArray,[t,u].toArray⟩) fr hp K:=by
 subst hn
 show force (aN fr s) fun a=>force (aN fr x) fun b=>gh T true .append [a,b] [t,u] hp K
 rw [hs,hx]
 show (match T.ty.get u with|some ⟨.slice _,_,_,_,_,_,_⟩=>fP T true t (.sl [] true) (.bI j aB 0 els.length c) hp K|_=>False)
 rw [hu]
 show fP T true t (.sl [] true) (.bI j aB 0 els.length c) hp K
 unfold fP
 rw [hi]
 refine ⟨hz,els,⟨hel,cs,es,hj,hl,rfl,hf⟩,h1,(fun _ h=>by cases h),by simpa using hb,fun e=>absurd e hne,fun _=>?_⟩
 simpa using hk
abbrev fo (P:List Order) (aB:Nat):AB:=.cells (gF P) 2 aB
theorem Gw (one:Bool) {P:List Order} (h1:1≤P.length) (h8:P.length≤8) {A0 A1 A2 A3:AB} {aB c:Nat} {aE:bG} {Q:AV→List AB→bG→Prop} (hQ:Q (.bI 5 0 0 P.length (P.length+1)) [A0,A1,A2,A3,fo P aB,fo P 0] aE) :
  av TT TB one (.fn 92 [] []) [.bI 4 aB 0 P.length c] [A0,A1,A2,A3,fo P aB] aE Q:=by
 have hne:P.length ≠ 0:=by omega
 have hcut:=Aq P P.length (Nat.le_refl _)
 rw [List.take_length] at hcut
 have hone:((P.map aD).flatten).all AV.one=true:=FD P
 have hne2:P.map aD ≠ []:=by
  cases P with
  | nil=>simp at h1
  | cons a l=>simp
 refine av.body (fn:=Tryd.f92) rfl rfl rfl ?_
 refine aa (mu:=fun t=>Nat.beq t 7) ?_
 repeat' (first |(refine RM.Rv rfl hne (by kernel_rfl) rfl ?_) |(refine Sm rfl rfl rfl rfl rfl rfl hcut.1 hcut.2.1 hcut.2.2.1 hcut.2.2.2 hone hne2 ⟨by show P.length * 32≤_;omega,by omega⟩ ?_) |refine u1 ?_ |refine u2 ?_ |fail)
 exact hQ
theorem Gx {P:Program} (d:Nat) (t:TypeId) (xs ys:Array Value) (ht:P.underlying t=some (.struct (P.fieldsOf t))) (hp:P.stoodInHeld t=false) :
  aF P (Op.equalIn (d+1) t (.agg xs) (.agg ys))=aF P (Op.eqFields d xs ys (P.fieldsOf t).toList):=by
 have hu:aF P (underlying t)=some (.struct (P.fieldsOf t)):=Am ht
 have hg:aF P program=some P:=rfl
 simp only [Op.equalIn,bP,hu,hg,hp,Option.bind_some,Bool.false_eq_true,if_false]
 rw [←Array.forIn_toList]
 generalize (P.fieldsOf t).toList=fs
 clear ht hu
 induction fs with
 | nil=>rfl
 | cons f fs ih =>
  simp only [List.forIn_cons,Op.eqFields,bP]
  split
  ·simp only [bP]
   cases aF P (part f.type xs f.offset) with
   | none=>rfl
   | some a =>
    simp only [Option.bind_some]
    cases aF P (part f.type ys f.offset) with
    | none=>rfl
    | some b =>
     simp only [Option.bind_some]
     cases aF P (Op.equalIn d f.type a b) with
     | none=>rfl
     | some r =>
      cases r
      ·rfl
      ·exact ih
  ·exact ih
theorem wB {P : Program} {e : TypeId} {k : IntKind} (he : P.underlying e = some (.int k)) (xs : Array Value) (off : Nat) (v : Value) (h : xs[off]? = some v) : aF P (part e xs off) = some v := by
  unfold part isAgg
  rw [bP, bP, Am he]
  show aF P (match xs[off]? with | some v => pure v | none => stuck "part: no such cell") = some v
  rw [h]
  rfl
theorem Ar {P:Program} (d:Nat) {e:TypeId} {k:IntKind} (he:P.underlying e=some (.int k)) (a b:Int):aF P (Op.equalIn (d+1) e (.int k a) (.int k b))=some (a == b):=by
 rw [Op.equalIn,bP,Am he]
 cases k <;> rfl
theorem RC {α:Type}:∀ {l:List α},l.length=3→∃ a b c,l=[a,b,c]
 | [a,b,c],_=>⟨a,b,c,rfl⟩
abbrev Key:=Int × Int × Int
def lM (x:Key):Value:=.agg #[.int .u64 x.1,.int .i64 x.2.1,.int .i64 x.2.2]
abbrev Au (x:Key):AV:=.ag [.fl (.int .u64 x.1),aC x.2.1,aC x.2.2]
theorem RD:aF TT.P (underlying 92)=some (.struct (TT.P.fieldsOf 92)):=Am (by kernel_rfl)
theorem PJ (k x : Key) : aF TT.P (Op.equalIn 10000 92 (lM k) (lM x)) = some (decide (k = x)) := by
  obtain ⟨a, b, c⟩ := k
  obtain ⟨a', b', c'⟩ := x
  unfold lM
  rw [Gx 9999 92 _ _ (by kernel_rfl) (by kernel_rfl)]
  have hl : (TT.P.fieldsOf 92).toList.length = 3 := by kernel_rfl
  have hf : ((TT.P.fieldsOf 92).toList.map fun f => (f.name != "_", f.type, f.offset)) = [(true, 79, 0), (true, 3, 1), (true, 3, 2)] := by kernel_rfl
  obtain ⟨f0, f1, f2, e⟩ := RC hl
  rw [e] at hf ⊢
  simp only [List.map_cons, List.map_nil, List.cons.injEq, Prod.mk.injEq, and_true, bne_iff_ne] at hf
  obtain ⟨⟨n0, t0, o0⟩, ⟨n1, t1, o1⟩, n2, t2, o2⟩ := hf
  have u79 : TT.P.underlying 79 = some (.int .u64) := by kernel_rfl
  have u3 : TT.P.underlying 3 = some (.int .i64) := by kernel_rfl
  have p0 := fun xs v h => wB u79 xs 0 v h
  have p1 := fun xs v h => wB u3 xs 1 v h
  have p2 := fun xs v h => wB u3 xs 2 v h
  simp only [Op.eqFields, n0, n1, n2, ne_eq, not_false_eq_true, if_true, t0, t1, t2, o0, o1, o2, bP]
  rw [p0 #[.int .u64 a, .int .i64 b, .int .i64 c] (.int .u64 a) rfl, p0 #[.int .u64 a', .int .i64 b', .int .i64 c'] (.int .u64 a') rfl]
  simp only [Option.bind_some]
  rw [Ar 9998 u79]
  simp only [Option.bind_some]
  by_cases e0 : a = a'
  · subst e0
    simp only [beq_self_eq_true, Bool.not_true, Bool.false_eq_true, if_false, bP]
    rw [p1 #[.int .u64 a, .int .i64 b, .int .i64 c] (.int .i64 b) rfl, p1 #[.int .u64 a, .int .i64 b', .int .i64 c'] (.int .i64 b') rfl]
    simp only [Option.bind_some]
    rw [Ar 9998 u3]
    simp only [Option.bind_some]
    by_cases e1 : b = b'
    · subst e1
      simp only [beq_self_eq_true, Bool.not_true, Bool.false_eq_true, if_false, bP]
      rw [p2 #[.int .u64 a, .int .i64 b, .int .i64 c] (.int .i64 c) rfl, p2 #[.int .u64 a, .int .i64 b, .int .i64 c'] (.int .i64 c') rfl]
      simp only [Option.bind_some]
      rw [Ar 9998 u3]
      simp only [Option.bind_some]
      by_cases e2 : c = c'
      · subst e2
        simp [ek]
      · have : (c == c') = false := by rw [beq_eq_false_iff_ne]; exact e2
        rw [this]
        simp [ek, e2]
    · have : (b == b') = false := by rw [beq_eq_false_iff_ne]; exact e1
      rw [this]
      simp [ek, e1]
  · have : (a == a') = false := by rw [beq_eq_false_iff_ne]; exact e0
    rw [this]
    simp [ek, e0]
theorem FE (k:Key):∀ (ks:List Key) (es:List MapEntry) (j:Nat),es.map (·.key)=ks.map lM →
  (aF TT.P (Instr.findAsking 92 (lM k) es j)).map (fun r=>r.map (·.1))=some ((ks.findIdx? (fun x=>decide (k=x))).map (·+j))
 | [],[],j,_=>rfl
 | [],e :: es,j,h=>by cases h
 | x :: ks,[],j,h=>by cases h
 | x :: ks,e :: es,j,h=>by
  rw [List.map_cons,List.map_cons,List.cons.injEq] at h
  have ih:=FE k ks es (j+1) h.2
  have he:aF TT.P (Op.equal 92 (lM k) e.key)=some (decide (k=x)):=by
   rw [h.1]
   exact PJ k x
  unfold Instr.findAsking
  rw [bP,he,Option.bind_some,List.findIdx?_cons]
  by_cases hx:k=x
  ·rw [decide_eq_true hx]
   simp [ek]
  ·rw [decide_eq_false hx]
   simp only [Bool.false_eq_true,if_false]
   rw [ih]
   cases ks.findIdx? fun x=>decide (k=x) with
   | none=>rfl
   | some a=>simp;omega
theorem L6 (b:Bool) (k:Key):aF TT.P (Instr.checkKey b 10000 92 (lM k))=some ():=by
 obtain ⟨x,y,z⟩:=k
 cases b <;> kernel_rfl
theorem CD (b:Bool) (k:Key) (ks:List Key):E7 TT b 92 (lM k) (ks.map lM) (ks.findIdx? fun x=>decide (k=x)):=by
 intro es he
 have hall:(es.all fun e=>flat e.key)=true:=by
  rw [List.all_eq_true]
  intro e hm
  have:e.key ∈ ks.map lM:=by rw [←he];exact List.mem_map.2 ⟨e,hm,rfl⟩
  obtain ⟨x,_,hx⟩:=List.mem_map.1 this
  rw [←hx]
  rfl
 unfold mS
 rw [show flat (lM k)=true from rfl,hall,L6 b k]
 simp only [Bool.and_self,cond_true]
 have hf:=FE k ks (es.map fun e=>{e with val:=.nilIface}) 0 (by rw [List.map_map];exact he)
 rw [show aF TT.P (Instr.findKey 92 (lM k) (es.map fun e=>{e with val:=.nilIface}))=aF TT.P (Instr.findAsking 92 (lM k) (es.map fun e=>{e with val:=.nilIface}) 0) by
  unfold Instr.findKey
  rw [bP,RD,Option.bind_some]
  have hn:∀ (es:List MapEntry) (n:Nat),es ≠ []→Instr.findNow (.struct (TT.P.fieldsOf 92)) (lM k) es n=none:=by
   intro es n hne
   cases es with
   | nil=>exact absurd rfl hne
   | cons e es=>rfl
  cases hes:es.map fun e=>{e with val:=Value.nilIface} with
  | nil=>rfl
  | cons e l=>rw [hn (e :: l) 0 (by simp)]]
 rw [hf]
 cases ks.findIdx? fun x=>decide (k=x) <;> rfl
theorem KC (k:Key):Instr.sameBits 10000 (lM k) (lM k)=true:=by
 obtain ⟨a,b,c⟩:=k
 show (IntKind.u64 == IntKind.u64 && a == a && ((IntKind.i64 == IntKind.i64 && b == b) && ((IntKind.i64 == IntKind.i64 && c == c) && true)))=true
 simp
abbrev nr:=Key × Int × Nat
abbrev aI (E:List nr):List (AV × AV × Nat):=E.map fun x=>(Au x.1,aC x.2.1,x.2.2)
def ng (B:Int) (E:List nr):Prop:=∀ x ∈ E,0≤x.2.1∧x.2.1≤B
theorem ng.mono {B C:Int} {E:List nr} (h:ng B E) (hc:B≤C):ng C E:=fun x hx=>⟨(h x hx).1,Int.le_trans (h x hx).2 hc⟩
theorem sR:∀ E:List nr,nM (aI E)=some ((E.map (·.1)).map lM)
 | []=>rfl
 | x :: E=>by
  show (match (Au x.1).gn,nM (aI E) with|some v,some vs=>some (v :: vs)|_,_=>none)=_
  rw [sR E]
  rfl
section
variable {own : Bool} {fr : Nat → AV} {hp : List AB} {K : AV → List AB → Prop} {m k : Operand} {j : Nat} {key : Key} {E : List nr} {clock : Nat} {B : Int}
def xG (key:Key) (E:List nr):Int:=match E.findIdx? (fun x=>decide (key=x.1)) with
 | some i=>(E[i]?.map fun x=>x.2.1).getD 0
 | none=>0
def mK (key:Key) (E:List nr) (clock:Nat):List nr:=match E.findIdx? (fun x=>decide (key=x.1)) with
 | some _=>E
 | none=>E++[(key,0,clock)]
def FF (key:Key) (E:List nr) (clock:Nat):Nat:=match E.findIdx? (fun x=>decide (key=x.1)) with
 | some i=>(E[i]?.map fun x=>x.2.2).getD 0
 | none=>clock
def Eh (key:Key) (E:List nr) (clock:Nat):Nat:=match E.findIdx? (fun x=>decide (key=x.1)) with
 | some _=>clock
 | none=>clock+1
theorem PK (key:Key) (hB:ng B E) (h0:0≤B):0≤xG key E∧xG key E≤B:=by
 unfold xG
 cases h:E.findIdx? (fun x=>decide (key=x.1)) with
 | none=>exact ⟨Int.le_refl _,h0⟩
 | some i =>
  rw [List.findIdx?_eq_some_iff_getElem] at h
  obtain ⟨hi,_⟩:=h
  dsimp only
  rw [List.getElem?_eq_getElem hi]
  exact hB _ (List.getElem_mem hi)
theorem Gy (key:Key) (hB:ng B E) (h0:0≤B) (clock:Nat):ng B (mK key E clock):=by
 unfold mK
 cases E.findIdx? (fun x=>decide (key=x.1)) with
 | some i=>exact hB
 | none =>
  intro x hx
  rcases List.mem_append.1 hx with hx|hx
  ·exact hB x hx
  ·rw [List.mem_singleton.1 hx];exact ⟨Int.le_refl _,h0⟩
theorem Ei (key:Key) (E:List nr) (clock:Nat):xG key (mK key E clock)=xG key E:=by
 unfold xG mK
 cases h:E.findIdx? (fun x=>decide (key=x.1)) with
 | some i=>simp only [h]
 | none =>
  have:(E++[(key,(0:Int),clock)]).findIdx? (fun x=>decide (key=x.1))=some E.length:=by
   rw [List.findIdx?_append,h]
   simp
  simp only [this]
  rw [List.getElem?_append_right (Nat.le_refl _),Nat.sub_self]
  rfl
theorem Gz (key:Key) (E:List nr) (clock:Nat):∃ x ∈ mK key E clock,x.2.2=FF key E clock:=by
 unfold mK FF
 cases h:E.findIdx? (fun x=>decide (key=x.1)) with
 | none=>exact ⟨_,List.mem_append.2 (.inr (List.mem_singleton.2 rfl)),rfl⟩
 | some i =>
  rw [List.findIdx?_eq_some_iff_getElem] at h
  obtain ⟨hi,_⟩:=h
  exact ⟨_,List.getElem_mem hi,by dsimp only;rw [List.getElem?_eq_getElem hi];rfl⟩
theorem NL (hm:aN fr m=.om j) (hk:aN fr k=Au key) (hj:hp[j]?=some (.map (aI E) clock)) (hK:K (aC (xG key E)) hp):RM.wpOp TT own (.lookup 124 m k false) fr hp K:=by
 show lC TT 124 (aN fr m) (aN fr k) false hp K
 rw [hm,hk]
 refine ⟨_,_,_,lM key,92,.int .i64 0,_,hj,sR E,rfl,by kernel_rfl,CD _ key _,?_⟩
 rw [List.findIdx?_map]
 unfold xG at hK
 show match E.findIdx? (fun x=>decide (key=x.1)) with|some i=>_|none=>_
 cases h:E.findIdx? (fun x=>decide (key=x.1)) with
 | none =>
  rw [h] at hK
  exact ⟨rfl,hK⟩
 | some i =>
  rw [h] at hK
  rw [List.findIdx?_eq_some_iff_getElem] at h
  obtain ⟨hi,_⟩:=h
  simp only [List.getElem?_eq_getElem hi] at hK
  exact ⟨(Au E[i].1,aC E[i].2.1,E[i].2.2),by rw [List.getElem?_map,List.getElem?_eq_getElem hi];rfl,hK⟩
theorem PL (hm:aN fr m=.om j) (hk:aN fr k=Au key) (hj:hp[j]?=some (.map (aI E) clock))
  (hK:K (.tp [aC (xG key E),aC (FF key E clock:Nat)]) (hp.set j (.map (aI (mK key E clock)) (Eh key E clock)))):RM.wpOp TT own (.mapEntry 124 m k) fr hp K:=by
 show fO TT 124 (aN fr m) (aN fr k) hp K
 rw [hm,hk]
 refine ⟨_,_,_,lM key,92,.int .i64 0,_,hj,sR E,rfl,by kernel_rfl,CD _ key _,?_⟩
 rw [List.findIdx?_map]
 unfold xG FF mK Eh at hK
 show match E.findIdx? (fun x=>decide (key=x.1)) with|some i=>_|none=>_
 cases h:E.findIdx? (fun x=>decide (key=x.1)) with
 | none =>
  rw [h] at hK
  refine ⟨rfl,?_⟩
  simp only at hK
  rw [show aI (E++[(key,0,clock)])=aI E++[(Au key,aC 0,clock)] by unfold aI;rw [List.map_append];rfl] at hK
  exact hK
 | some i =>
  rw [h] at hK
  rw [List.findIdx?_eq_some_iff_getElem] at h
  obtain ⟨hi,hx,_⟩:=h
  have hx:key=E[i].1:=of_decide_eq_true hx
  have hg:(aI E)[i]?=some (Au E[i].1,aC E[i].2.1,E[i].2.2):=by rw [List.getElem?_map,List.getElem?_eq_getElem hi];rfl
  simp only [List.getElem?_eq_getElem hi] at hK
  refine ⟨_,hg,⟨lM E[i].1,rfl,by rw [hx];exact KC _⟩,?_⟩
  rw [hx,B9 hg]
  exact hK
theorem PM {s v:Operand} {n:Int} {t:TypeId} {born:Nat} (hm:aN fr m=.om j) (hs:aN fr s=aC (born:Nat)) (hv:aN fr v=aC n) (hj:hp[j]?=some (.map (aI E) clock)) (hB:ng B E) (hn:0≤n∧n≤B+1) (hb:∃ x ∈ E,x.2.2=born)
  (hK:∀ E':List nr,ng (B+1) E'→K .bM (hp.set j (.map (aI E') clock))):RM.wpOp TT own (.entryStore t m s v) fr hp K:=by
 show ew (aN fr m) (aN fr s) (aN fr v) hp K
 rw [hm,hs,hv]
 cases hf:((aI E).map fun p=>((p.2.2:Nat):Int)).findIdx? (· == (born:Int)) with
 | none =>
  exfalso
  rw [List.findIdx?_eq_none_iff] at hf
  obtain ⟨x,hx,e⟩:=hb
  have:=hf ((x.2.2:Nat):Int) (List.mem_map.2 ⟨_,List.mem_map.2 ⟨x,hx,rfl⟩,rfl⟩)
  rw [e] at this
  simp at this
 | some i =>
  have hi:i < E.length:=by
   rw [List.findIdx?_eq_some_iff_getElem] at hf
   obtain ⟨h,_⟩:=hf
   simpa using h
  have hg:(aI E)[i]?=some (Au E[i].1,aC E[i].2.1,E[i].2.2):=by rw [List.getElem?_map,List.getElem?_eq_getElem hi];rfl
  refine ⟨_,_,_,i,_,hj,rfl,hf,hg,?_⟩
  have:=hK (E.set i (E[i].1,n,E[i].2.2)) (fun x hx=>by
   rcases List.mem_or_eq_of_mem_set hx with hx|rfl
   ·exact ⟨(hB x hx).1,by have:=(hB x hx).2;omega⟩
   ·exact hn)
  rw [show aI (E.set i (E[i].1,n,E[i].2.2))=(aI E).set i (Au E[i].1,aC n,E[i].2.2) by unfold aI;rw [List.map_set]] at this
  exact this
end
abbrev sS (R:List Nat):List (List AV):=R.map fun f=>[eF f]
theorem rG (R:List Nat):(0:Nat)+R.length * 1≤(R.map eF).length∧(sS R).length=R.length∧(∀ el ∈ sS R,el.length=1)∧(sS R).flatten=((R.map eF).drop 0).take (R.length * 1) :=
 ⟨by rw [List.length_map];omega,by simp,fun el hel=>by obtain ⟨o,_,rfl⟩:=List.mem_map.1 hel;rfl,by
  rw [List.drop_zero,List.take_of_length_le (by rw [List.length_map];omega)]
  induction R with
  | nil=>rfl
  | cons a l ih=>show eF a :: (sS l).flatten=_;rw [ih];rfl⟩
theorem CE:∀ R:List Nat,cJ (sS R).flatten=true
 | []=>rfl
 | _ :: l=>CE l
theorem GA (R:List Nat) (f:Nat):R.map eF++[[eF f]].flatten=(R++[f]).map eF:=by rw [List.map_append];rfl
theorem KF (one:Bool) {s:ai} (hg:Good s):Pu one 82 [.ag (az s)] (.sl (sS (aK s)) false):=by
 have h3:=hg.len
 have hld:=hg.load
 have hp8:2 ^ s.needs.length≤2 ^ 3:=Nat.pow_le_pow_right (by decide) h3.2
 have hp1:1≤2 ^ s.needs.length:=Nat.one_le_two_pow
 have hl8:(s.needs.map aV).length < 8:=by rw [List.length_map];omega
 have hpe:2 ^ (s.needs.map aV).length=2 ^ s.needs.length:=by rw [List.length_map]
 have eg:((s.needs.map aV).length:Int)=s.needs.length:=by simp
 obtain ⟨nn,hnn⟩:∃ n:Int,n=s.needs.length:=⟨_,rfl⟩
 have hfin:∀ S:List Nat,kL S (jn s (2 ^ s.needs.length - 1)).length→S.Perm (jn s (2 ^ s.needs.length - 1))→S=aK s:=fun S h1 h2=>Ed hg h2.length_eq h1 h2
 refine ah.body (fn:=Tryd.f82) rfl rfl rfl rfl ?_
 refine RM.cS (mu:=fun _=>false) ?_
 repeat' (first |refine u1 ?_ |refine u2 ?_ |fail)
 refine aA.scope ?_
 refine RM.cS (mu:=fun _=>false) ?_
 repeat' (first |refine u1 ?_ |refine u2 ?_ |fail)
 refine aA.seq ?_
 refine RM.cS (mu:=fun _=>false) ?_
 repeat' (first |refine u1 ?_ |refine u2 ?_ |fail)
 refine aA.block ?_
 refine aA.aX (aj.trans (aj.qc 1) (aj.NC (l:=[(1,.pt (az s) 0),(2,.bI 0 0 0 (([]:List Nat)).length 0),(3,gq (0+1))]) (hp:=[j5 [] 0]) 1 rfl ⟨bO.refl _,bO.qb,bO.refl _,trivial⟩ (Nat.zero_le _) rfl (eW _ _))) ?_
 refine aA.loop (fun x:Nat × Nat × Nat=>x.1+1≤2 ^ s.needs.length∧(x.2.2=(jn s x.1).length∨x.2.2=(jn s x.1).length+1)) (fun x=>⟨bx [(1,.pt (az s) 0),(2,.bI 0 x.2.1 0 ((jn s x.1)).length x.2.2),(3,gq (x.1+1))],[j5 (jn s x.1) x.2.1],bG.none,false,0⟩) (fun x=>8 - x.1) ?_ (0,0,0) ⟨hp1,.inl rfl⟩
 rintro ⟨k,aB,c⟩ ⟨hk,hc⟩
 dsimp only at hk hc
 have hln:=CA (s:=s) k
 have hsc:=oP (s:=s) (k:=k)
 have hlast:k+1=2 ^ s.needs.length→jn s k=jn s (2 ^ s.needs.length - 1):=fun e=>by rw [←e];rfl
 have hmR:∀ f ∈ jn s k,1≤f∧f < 8:=fun f hf=>by have:=(nT.1 hf).1;omega
 show aA _ _ _ _ ⟨bx [(1,.pt (az s) 0),(2,.bI 0 aB 0 ((jn s k)).length c),(3,gq (k+1))],[j5 (jn s k) aB],bG.none,false,0⟩ _
 generalize jn s k=R at *
 by_cases hlt:k+1 < 2 ^ s.needs.length
 ·have d1:decide (((k+1:Nat):Int) < ((2 ^ (s.needs.map aV).length:Nat):Int))=true:=decide_eq_true (by rw [hpe];omega)
  obtain ⟨hvl,hvi⟩:=yI (f:=k+1) hlt (by omega)
  have ol:=An one (f:=k+1) (by omega)
  have hfu:k+1 < 18446744073709551615:=by omega
  have ow1:=vZ one hg (aP (k+1)) false hvl hvi
  have ow2:=vZ true hg (aP (k+1)) false hvl hvi
  have hwb:=JZ hg (aP (k+1))
  generalize hW:sK s (aP (k+1))=W at *
  by_cases hw:W≤s.load
  ·have d2:decide (s.load < W)=false:=decide_eq_false (by omega)
   refine RM.cS (mu:=fun _=>false) ?_
   repeat' (first |((with_reducible show aL _ _ _ _ _ _ _ _ _);refine RM.Fs rfl rfl hl8 ?_) |((with_reducible show aL _ _ _ _ _ _ _ _ _);refine RM.Kf rfl rfl ?_) |refine u1 ?_ |refine u2 ?_ |fail)
   refine aA.seq ?_
   refine aA.block ?_
   refine RM.cS (mu:=fun _=>false) ?_
   repeat' (first |refine u1 ?_ |((with_reducible show av _ _ _ _ _ _ _ _);refine ah.call ol rfl rfl ?_) |refine u2 ?_ |fail)
   refine RM.cS (mu:=fun _=>false) ?_
   repeat' (first |refine u1 ?_ |refine u2 ?_ |fail)
   refine aA.seq ?_
   refine RM.cS (mu:=fun _=>false) ?_
   repeat' (first |refine u1 ?_ |refine u2 ?_ |fail)
   refine aA.block ?_
   refine aA.aX (aj.to (l:=[(1,.pt (az s) 0),(2,.bI 0 aB 0 (R).length c),(3,gq (k+1)),(4,.sl (ints (aP (k+1))) false),(27,.sl (s.needs.map aV) false),(28,aC nn),(29,aC (0:Nat))]) (hp:=[j5 R aB]) 1 rfl ⟨rfl,rfl,rfl,rfl,rfl,bW (by rw [hnn];exact eg),rfl,trivial⟩ (Nat.zero_le _) rfl (eW _ _)) ?_
   refine aA.loop (fun n:Nat=>n≤s.needs.length∧tG s (k+1) n=true) (fun n=>⟨bx [(1,.pt (az s) 0),(2,.bI 0 aB 0 (R).length c),(3,gq (k+1)),(4,.sl (ints (aP (k+1))) false),(27,.sl (s.needs.map aV) false),(28,aC nn),(29,aC (n:Nat))],[j5 R aB],bG.none,false,0⟩) (fun n=>s.needs.length - n) ?_ 0 ⟨Nat.zero_le _,rfl⟩
   rintro n ⟨hn,hfk⟩
   have hks:=Ec (s:=s) (f:=k+1) (k:=n)
   have hke:=fun h=>Gr (s:=s) (f:=k+1) (k:=n) h
   rw [hW] at hks hke
   by_cases hnl:n < s.needs.length
   ·have d3:decide ((n:Int) < nn)=true:=decide_eq_true (by omega)
    have hn8:n < 8:=by omega
    have hat:(s.needs.map aV)[((n:Nat):Int).toNat]?=some (aV s.needs[n]):=cI hnl
    have hww:s.needs[n].weight=xE s (n:Nat):=by
     unfold xE
     rw [Int.toNat_natCast,List.getElem?_eq_getElem hnl]
    have hab:=Fm hg (n:Nat)
    have hfm:(k+1) / 2 ^ n < 18446744073709551616:=Nat.lt_of_le_of_lt (Nat.div_le_self _ _) (by omega)
    have hbit:(k+1) / 2 ^ n % 2=if (k+1).testBit n=true then 1 else 0:=by
     rw [Nat.testBit_eq_decide_div_mod_eq]
     have:=Nat.mod_two_eq_zero_or_one ((k+1) / 2 ^ n)
     rcases this with e|e <;> rw [e] <;> simp
    rw [←hww] at hks hke hab
    cases hbt:(k+1).testBit n with
    | true =>
     rw [hbt,if_pos rfl] at hbit
     rw [hbt,hfk] at hks
     have d4:decide (((((k+1) / 2 ^ n % 2:Nat)):Int)=0)=false:=decide_eq_false (by rw [hbit];decide)
     generalize s.needs[n]=g at *
     refine aa (mu:=fun _=>false) ?_
     repeat' (first |((with_reducible show aL _ _ _ _ _ _ _ _ _);refine RM.v7 rfl rfl hn8 ?_) |((with_reducible show aL _ _ _ _ _ _ _ _ _);refine RM.qd rfl rfl hfm ?_) |((with_reducible show aL _ _ _ _ _ _ _ _ _);refine RM.DZ rfl rfl ?_) |refine u1 ?_ |((with_reducible show RM.wpOp _ _ (.indexAddr _ _ _) _ _ _);refine ⟨aV g,⟨by omega,hat⟩,rfl,?_⟩) |refine u2 ?_ |fail)
     exact ⟨n+1,⟨hnl,hks⟩,(by dsimp only;omega),aj.to 1 rfl ⟨rfl,rfl,rfl,rfl,rfl,rfl,bW (by simp),trivial⟩ (Nat.zero_le _) rfl (eW _ _)⟩
    | false =>
     rw [hbt,if_neg (by simp)] at hbit
     rw [hbt,hfk,Bool.false_or,Bool.true_and] at hks
     have d4:decide (((((k+1) / 2 ^ n % 2:Nat)):Int)=0)=true:=decide_eq_true (by rw [hbit];decide)
     by_cases hle:W+s.needs[n].weight≤s.load
     ·have d5:=decide_eq_true hle
      have hfb:=hke hnl hbt hle
      have hs0:jn s (k+1)=R:=by rw [hsc,if_neg (by rw [hfb];simp)]
      generalize s.needs[n]=g at *
      refine aa (mu:=fun _=>false) ?_
      repeat' (first |((with_reducible show aL _ _ _ _ _ _ _ _ _);refine RM.v7 rfl rfl hn8 ?_) |((with_reducible show aL _ _ _ _ _ _ _ _ _);refine RM.qd rfl rfl hfm ?_) |((with_reducible show aL _ _ _ _ _ _ _ _ _);refine RM.DZ rfl rfl ?_) |((with_reducible show av _ _ _ _ _ _ _ _);refine ah.call ow2 rfl rfl ?_) |refine u1 ?_ |((with_reducible show RM.wpOp _ _ (.indexAddr _ _ _) _ _ _);refine ⟨aV g,⟨by omega,hat⟩,rfl,?_⟩) |refine u2 ?_ |fail)
      refine aa (mu:=fun _=>false) ?_
      repeat' (first |((with_reducible show aL _ _ _ _ _ _ _ _ _);refine RM.Kg rfl rfl hfu ?_) |refine u1 ?_ |refine u2 ?_ |fail)
      exact ⟨(k+1,aB,c),⟨(by dsimp only;omega),by dsimp only;rw [hs0];exact hc⟩,(by dsimp only;omega),aj.to 1 (by dsimp only;rw [hs0];rfl) ⟨rfl,(by rw [hs0];rfl),rfl,trivial⟩ (Nat.zero_le _) rfl (eW _ _)⟩
     ·have d5:=decide_eq_false hle
      rw [decide_eq_true (by omega)] at hks
      generalize s.needs[n]=g at *
      refine aa (mu:=fun _=>false) ?_
      repeat' (first |((with_reducible show aL _ _ _ _ _ _ _ _ _);refine RM.v7 rfl rfl hn8 ?_) |((with_reducible show aL _ _ _ _ _ _ _ _ _);refine RM.qd rfl rfl hfm ?_) |((with_reducible show aL _ _ _ _ _ _ _ _ _);refine RM.DZ rfl rfl ?_) |((with_reducible show av _ _ _ _ _ _ _ _);refine ah.call ow2 rfl rfl ?_) |refine u1 ?_ |((with_reducible show RM.wpOp _ _ (.indexAddr _ _ _) _ _ _);refine ⟨aV g,⟨by omega,hat⟩,rfl,?_⟩) |refine u2 ?_ |fail)
      exact ⟨n+1,⟨hnl,hks⟩,(by dsimp only;omega),aj.to 1 rfl ⟨rfl,rfl,rfl,rfl,rfl,rfl,bW (by simp),trivial⟩ (Nat.zero_le _) rfl (eW _ _)⟩
   ·have d3:decide ((n:Int) < nn)=false:=decide_eq_false (by omega)
    have hfb:lK s (k+1)=true:=by
     unfold lK
     rw [hW,decide_eq_true hw,←show n=s.needs.length by omega,hfk]
     rfl
    have hs1:jn s (k+1)=R++[k+1]:=by rw [hsc,if_pos hfb]
    refine aa (mu:=fun _=>false) ?_
    repeat' (first |refine u1 ?_ |refine u2 ?_ |fail)
    refine aa (mu:=fun _=>false) ?_
    repeat' (first |((with_reducible show RM.wpOp _ _ (.call _) _ _ _);refine RM.DP (cs:=R.map eF) (n:=R.length) (els:=[[eF (k+1)]]) rfl rfl rfl rfl rfl (fun el hel=>by rw [List.mem_singleton.1 hel];rfl) rfl rfl (by rw [List.length_map];exact (Nat.mul_one _).symm) hc (by simp only [List.length_singleton];omega) (fun v' c' hc'=>?_)) |refine u1 ?_ |refine u2 ?_ |fail)
    refine aa (mu:=fun _=>false) ?_
    repeat' (first |((with_reducible show aL _ _ _ _ _ _ _ _ _);refine RM.Kg rfl rfl hfu ?_) |refine u1 ?_ |refine u2 ?_ |fail)
    exact ⟨(k+1,v',c'),⟨(by dsimp only;omega),by dsimp only;rw [hs1,List.length_append];exact hc'⟩,(by dsimp only;omega),aj.to 1 (by dsimp only;rw [hs1];show _=[AB.cells ((R++[k+1]).map eF) 1 v'];rw [←GA];rfl) ⟨rfl,(by rw [hs1,List.length_append];rfl),rfl,trivial⟩ (Nat.zero_le _) rfl (eW _ _)⟩
  ·have d2:decide (s.load < W)=true:=decide_eq_true (by omega)
   have hfb:lK s (k+1)=false:=by
    unfold lK
    rw [hW,decide_eq_false hw,Bool.false_and]
   have hs0:jn s (k+1)=R:=by rw [hsc,if_neg (by rw [hfb];simp)]
   refine aa (mu:=fun _=>false) ?_
   repeat' (first |((with_reducible show aL _ _ _ _ _ _ _ _ _);refine RM.Fs rfl rfl hl8 ?_) |((with_reducible show aL _ _ _ _ _ _ _ _ _);refine RM.Kf rfl rfl ?_) |((with_reducible show aL _ _ _ _ _ _ _ _ _);refine RM.Kg rfl rfl hfu ?_) |refine u1 ?_ |((with_reducible show av _ _ _ _ _ _ _ _);refine ah.call ol rfl rfl ?_) |refine u2 ?_ |fail)
   exact ⟨(k+1,aB,c),⟨(by dsimp only;omega),by dsimp only;rw [hs0];exact hc⟩,(by dsimp only;omega),aj.to 1 (by dsimp only;rw [hs0];rfl) ⟨rfl,(by rw [hs0];rfl),rfl,trivial⟩ (Nat.zero_le _) rfl (eW _ _)⟩
 ·have d1:decide (((k+1:Nat):Int) < ((2 ^ (s.needs.map aV).length:Nat):Int))=false:=decide_eq_false (by rw [hpe];omega)
  rw [←hlast (by omega)] at hfin
  refine aa (mu:=fun _=>false) ?_
  repeat' (first |((with_reducible show aL _ _ _ _ _ _ _ _ _);refine RM.Fs rfl rfl hl8 ?_) |((with_reducible show aL _ _ _ _ _ _ _ _ _);refine RM.Kf rfl rfl ?_) |refine u1 ?_ |refine u2 ?_ |fail)
  refine aa (mu:=fun _=>false) ?_
  repeat' (first |(refine PI _ R R.length rfl (by omega) hmR (fun S hso hpe=>?_)) |refine u1 ?_ |refine u2 ?_ |fail)
  have hSl:S.length=R.length:=hpe.length_eq
  have e:=hfin S hso hpe
  subst e
  rw [←hSl]
  exact ⟨[_],⟨Fz.row (es:=1) rfl (rG _).1 (rG _).2.1 (rG _).2.2.1 (rG _).2.2.2 (CE _) (fun h=>Bool.noConfusion h),trivial⟩,rfl⟩
end Go.Proofs.YtpeogffeoehboaaDoor
