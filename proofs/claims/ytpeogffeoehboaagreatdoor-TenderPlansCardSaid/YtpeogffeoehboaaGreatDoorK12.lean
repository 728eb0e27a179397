/-
  Contracts of the program's functions and of the document's. Lemmas alone; their conditions stand in them.
-/
import Derived.Test.YtpeogffeoehboaaGreatDoorK11
open Go Go.RM
namespace Go.Proofs.YtpeogffeoehboaaGreatDoor
set_option maxRecDepth 100000
theorem HV {P:Program} (d:Nat) (t:TypeId) (xs ys:Array Value) (ht:P.underlying t=some (.struct (P.fieldsOf t))) (hp:P.stoodInHeld t=false) :
  aG P (Op.equalIn (d+1) t (.agg xs) (.agg ys))=aG P (Op.eqFields d xs ys (P.fieldsOf t).toList):=by
 have hu:aG P (underlying t)=some (.struct (P.fieldsOf t)):=Bt ht;have hg:aG P program=some P:=rfl;simp only [Op.equalIn,bW,hu,hg,hp,Option.bind_some,Bool.false_eq_true,if_false];rw [←Array.forIn_toList];generalize (P.fieldsOf t).toList=fs;clear ht hu
 induction fs with
 | nil=>rfl
 | cons f fs ih =>
  simp only [List.forIn_cons,Op.eqFields,bW];split
  ·simp only [bW]
   cases aG P (part f.type xs f.offset) with
   | none=>rfl
   | some a =>
    simp only [Option.bind_some]
    cases aG P (part f.type ys f.offset) with
    | none=>rfl
    | some b =>
     simp only [Option.bind_some]
     cases aG P (Op.equalIn d f.type a b) with
     | none=>rfl
     | some r =>
      cases r
      ·rfl
      ·exact ih
  ·exact ih
theorem xG {P : Program} {e : TypeId} {k : IntKind} (he : P.underlying e = some (.int k)) (xs : Array Value) (off : Nat) (v : Value) (h : xs[off]? = some v) : aG P (part e xs off) = some v := by
  unfold part isAgg;rw [bW, bW, Bt he]
  show aG P (match xs[off]? with | some v => pure v | none => stuck "part: no such cell") = some v
  rw [h];rfl
theorem BA {P:Program} (d:Nat) {e:TypeId} {k:IntKind} (he:P.underlying e=some (.int k)) (a b:Int):aG P (Op.equalIn (d+1) e (.int k a) (.int k b))=some (a == b):=by rw [Op.equalIn,bW,Bt he];cases k <;> rfl
theorem SS {α:Type}:∀ {l:List α},l.length=3→∃ a b c,l=[a,b,c]
 | [a,b,c],_=>⟨a,b,c,rfl⟩
abbrev Key:=Int × Int × Int
def mK (x:Key):Value:=.agg #[.int .u64 x.1,.int .i64 x.2.1,.int .i64 x.2.2]
abbrev BC (x:Key):AV:=.ag [.fl (.int .u64 x.1),aC x.2.1,aC x.2.2]
theorem SU:aG TT.P (underlying 53)=some (.struct (TT.P.fieldsOf 53)):=Bt (by kernel_rfl)
theorem Q2 (k x : Key) : aG TT.P (Op.equalIn 10000 53 (mK k) (mK x)) = some (decide (k = x)) := by
  obtain ⟨a, b, c⟩ := k;obtain ⟨a', b', c'⟩ := x;unfold mK;rw [HV 9999 53 _ _ (by kernel_rfl) (by kernel_rfl)];have hl : (TT.P.fieldsOf 53).toList.length = 3 := by kernel_rfl
  have hf : ((TT.P.fieldsOf 53).toList.map fun f => (f.name != "_", f.type, f.offset)) = [(true, 51, 0), (true, 3, 1), (true, 3, 2)] := by kernel_rfl
  obtain ⟨f0, f1, f2, e⟩ := SS hl;rw [e] at hf ⊢;simp only [List.map_cons, List.map_nil, List.cons.injEq, Prod.mk.injEq, and_true, bne_iff_ne] at hf;obtain ⟨⟨n0, t0, o0⟩, ⟨n1, t1, o1⟩, n2, t2, o2⟩ := hf;have u79 : TT.P.underlying 51 = some (.int .u64) := by kernel_rfl
  have u3 : TT.P.underlying 3 = some (.int .i64) := by kernel_rfl
  have p0 := fun xs v h => xG u79 xs 0 v h;have p1 := fun xs v h => xG u3 xs 1 v h;have p2 := fun xs v h => xG u3 xs 2 v h;simp only [Op.eqFields, n0, n1, n2, ne_eq, not_false_eq_true, if_true, t0, t1, t2, o0, o1, o2, bW];rw [p0 #[.int .u64 a, .int .i64 b, .int .i64 c] (.int .u64 a) rfl, p0 #[.int .u64 a', .int .i64 b', .int .i64 c'] (.int .u64 a') rfl];simp only [Option.bind_some];rw [BA 9998 u79];simp only [Option.bind_some];by_cases e0 : a = a'
  · subst e0;simp only [beq_self_eq_true, Bool.not_true, Bool.false_eq_true, if_false, bW];rw [p1 #[.int .u64 a, .int .i64 b, .int .i64 c] (.int .i64 b) rfl, p1 #[.int .u64 a, .int .i64 b', .int .i64 c'] (.int .i64 b') rfl];simp only [Option.bind_some];rw [BA 9998 u3];simp only [Option.bind_some];by_cases e1 : b = b'
    · subst e1;simp only [beq_self_eq_true, Bool.not_true, Bool.false_eq_true, if_false, bW];rw [p2 #[.int .u64 a, .int .i64 b, .int .i64 c] (.int .i64 c) rfl, p2 #[.int .u64 a, .int .i64 b, .int .i64 c'] (.int .i64 c') rfl];simp only [Option.bind_some];rw [BA 9998 u3];simp only [Option.bind_some];by_cases e2 : c = c'
      · subst e2;simp [eO]
      · have : (c == c') = false := by rw [beq_eq_false_iff_ne]; exact e2
        rw [this];simp [eO, e2]
    · have : (b == b') = false := by rw [beq_eq_false_iff_ne]; exact e1
      rw [this];simp [eO, e1]
  · have : (a == a') = false := by rw [beq_eq_false_iff_ne]; exact e0
    rw [this];simp [eO, e0]
theorem GI (k:Key):∀ (ks:List Key) (es:List MapEntry) (j:Nat),es.map (·.key)=ks.map mK →
  (aG TT.P (Instr.findAsking 53 (mK k) es j)).map (fun r=>r.map (·.1))=some ((ks.findIdx? (fun x=>decide (k=x))).map (·+j))
 | [],[],j,_=>rfl
 | [],e :: es,j,h=>by cases h
 | x :: ks,[],j,h=>by cases h
 | x :: ks,e :: es,j,h=>by
  rw [List.map_cons,List.map_cons,List.cons.injEq] at h;have ih:=GI k ks es (j+1) h.2;have he:aG TT.P (Op.equal 53 (mK k) e.key)=some (decide (k=x)):=by rw [h.1];exact Q2 k x
  unfold Instr.findAsking;rw [bW,he,Option.bind_some,List.findIdx?_cons];by_cases hx:k=x
  ·rw [decide_eq_true hx];simp [eO]
  ·rw [decide_eq_false hx];simp only [Bool.false_eq_true,if_false];rw [ih]
   cases ks.findIdx? fun x=>decide (k=x) with
   | none=>rfl
   | some a=>simp;omega
theorem NC (b:Bool) (k:Key):aG TT.P (Instr.checkKey b 10000 53 (mK k))=some ():=by obtain ⟨x,y,z⟩:=k;cases b <;> kernel_rfl
theorem DB (b:Bool) (k:Key) (ks:List Key):Gb TT b 53 (mK k) (ks.map mK) (ks.findIdx? fun x=>decide (k=x)):=by
 intro es he
 have hall:(es.all fun e=>flat e.key)=true:=by
  rw [List.all_eq_true];intro e hm;have:e.key ∈ ks.map mK:=by rw [←he];exact List.mem_map.2 ⟨e,hm,rfl⟩
  obtain ⟨x,_,hx⟩:=List.mem_map.1 this;rw [←hx];rfl
 unfold nT;rw [show flat (mK k)=true from rfl,hall,NC b k];simp only [Bool.and_self,cond_true];have hf:=GI k ks (es.map fun e=>{e with val:=.nilIface}) 0 (by rw [List.map_map];exact he)
 rw [show aG TT.P (Instr.findKey 53 (mK k) (es.map fun e=>{e with val:=.nilIface}))=aG TT.P (Instr.findAsking 53 (mK k) (es.map fun e=>{e with val:=.nilIface}) 0) by
  unfold Instr.findKey;rw [bW,SU,Option.bind_some]
  have hn:∀ (es:List MapEntry) (n:Nat),es ≠ []→Instr.findNow (.struct (TT.P.fieldsOf 53)) (mK k) es n=none:=by
   intro es n hne
   cases es with
   | nil=>exact absurd rfl hne
   | cons e es=>rfl
  cases hes:es.map fun e=>{e with val:=Value.nilIface} with
  | nil=>rfl
  | cons e l=>rw [hn (e :: l) 0 (by simp)]]
 rw [hf];cases ks.findIdx? fun x=>decide (k=x) <;> rfl
theorem L9 (k:Key):Instr.sameBits 10000 (mK k) (mK k)=true:=by obtain ⟨a,b,c⟩:=k;show (IntKind.u64 == IntKind.u64 && a == a && ((IntKind.i64 == IntKind.i64 && b == b) && ((IntKind.i64 == IntKind.i64 && c == c) && true)))=true;simp
abbrev oy:=Key × Int × Nat
abbrev aK (E:List oy):List (AV × AV × Nat):=E.map fun x=>(BC x.1,aC x.2.1,x.2.2)
def og (B:Int) (E:List oy):Prop:=∀ x ∈ E,0≤x.2.1∧x.2.1≤B
theorem og.mono {B C:Int} {E:List oy} (h:og B E) (hc:B≤C):og C E:=fun x hx=>⟨(h x hx).1,Int.le_trans (h x hx).2 hc⟩
theorem ua:∀ E:List oy,oT (aK E)=some ((E.map (·.1)).map mK)
 | []=>rfl
 | x :: E=>by show (match (BC x.1).gI,oT (aK E) with|some v,some vs=>some (v :: vs)|_,_=>none)=_;rw [ua E];rfl
section
variable {own : Bool} {fr : Nat → AV} {hp : List AB} {K : AV → List AB → Prop} {m k : Operand} {j : Nat} {key : Key} {E : List oy} {clock : Nat} {B : Int}
def yH (key:Key) (E:List oy):Int:=match E.findIdx? (fun x=>decide (key=x.1)) with
 | some i=>(E[i]?.map fun x=>x.2.1).getD 0
 | none=>0
def nP (key:Key) (E:List oy) (clock:Nat):List oy:=match E.findIdx? (fun x=>decide (key=x.1)) with
 | some _=>E
 | none=>E++[(key,0,clock)]
def GJ (key:Key) (E:List oy) (clock:Nat):Nat:=match E.findIdx? (fun x=>decide (key=x.1)) with
 | some i=>(E[i]?.map fun x=>x.2.2).getD 0
 | none=>clock
def Fv (key:Key) (E:List oy) (clock:Nat):Nat:=match E.findIdx? (fun x=>decide (key=x.1)) with
 | some _=>clock
 | none=>clock+1
theorem Q3 (key:Key) (hB:og B E) (h0:0≤B):0≤yH key E∧yH key E≤B:=by
 unfold yH
 cases h:E.findIdx? (fun x=>decide (key=x.1)) with
 | none=>exact ⟨Int.le_refl _,h0⟩
 | some i =>rw [List.findIdx?_eq_some_iff_getElem] at h;obtain ⟨hi,_⟩:=h;dsimp only;rw [List.getElem?_eq_getElem hi];exact hB _ (List.getElem_mem hi)
theorem HW (key:Key) (hB:og B E) (h0:0≤B) (clock:Nat):og B (nP key E clock):=by
 unfold nP
 cases E.findIdx? (fun x=>decide (key=x.1)) with
 | some i=>exact hB
 | none =>
  intro x hx
  rcases List.mem_append.1 hx with hx|hx
  ·exact hB x hx
  ·rw [List.mem_singleton.1 hx];exact ⟨Int.le_refl _,h0⟩
theorem Fw (key:Key) (E:List oy) (clock:Nat):yH key (nP key E clock)=yH key E:=by
 unfold yH nP
 cases h:E.findIdx? (fun x=>decide (key=x.1)) with
 | some i=>simp only [h]
 | none =>
  have:(E++[(key,(0:Int),clock)]).findIdx? (fun x=>decide (key=x.1))=some E.length:=by rw [List.findIdx?_append,h];simp
  simp only [this];rw [List.getElem?_append_right (qq6 _),Nat.sub_self];rfl
theorem HX (key:Key) (E:List oy) (clock:Nat):∃ x ∈ nP key E clock,x.2.2=GJ key E clock:=by
 unfold nP GJ
 cases h:E.findIdx? (fun x=>decide (key=x.1)) with
 | none=>exact ⟨_,List.mem_append.2 (.inr (List.mem_singleton.2 rfl)),rfl⟩
 | some i =>rw [List.findIdx?_eq_some_iff_getElem] at h;obtain ⟨hi,_⟩:=h;exact ⟨_,List.getElem_mem hi,by dsimp only;rw [List.getElem?_eq_getElem hi];rfl⟩
theorem Pd (hm:aN fr m=.om j) (hk:aN fr k=BC key) (hj:hp[j]?=some (.map (aK E) clock)) (hK:K (aC (yH key E)) hp):RM.wpOp TT own (.lookup 108 m k false) fr hp K:=by
 show mC TT 108 (aN fr m) (aN fr k) false hp K;rw [hm,hk];refine ⟨_,_,_,mK key,53,.int .i64 0,_,hj,ua E,rfl,by kernel_rfl,DB _ key _,?_⟩;rw [List.findIdx?_map];unfold yH at hK
 show match E.findIdx? (fun x=>decide (key=x.1)) with|some i=>_|none=>_
 cases h:E.findIdx? (fun x=>decide (key=x.1)) with
 | none =>rw [h] at hK;exact ⟨rfl,hK⟩
 | some i =>rw [h] at hK;rw [List.findIdx?_eq_some_iff_getElem] at h;obtain ⟨hi,_⟩:=h;simp only [List.getElem?_eq_getElem hi] at hK;exact ⟨(BC E[i].1,aC E[i].2.1,E[i].2.2),by rw [List.getElem?_map,List.getElem?_eq_getElem hi];rfl,hK⟩
theorem Q4 (hm:aN fr m=.om j) (hk:aN fr k=BC key) (hj:hp[j]?=some (.map (aK E) clock))
  (hK:K (.tp [aC (yH key E),aC (GJ key E clock:Nat)]) (hp.set j (.map (aK (nP key E clock)) (Fv key E clock)))):RM.wpOp TT own (.mapEntry 108 m k) fr hp K:=by
 show gj TT 108 (aN fr m) (aN fr k) hp K;rw [hm,hk];refine ⟨_,_,_,mK key,53,.int .i64 0,_,hj,ua E,rfl,by kernel_rfl,DB _ key _,?_⟩;rw [List.findIdx?_map];unfold yH GJ nP Fv at hK
 show match E.findIdx? (fun x=>decide (key=x.1)) with|some i=>_|none=>_
 cases h:E.findIdx? (fun x=>decide (key=x.1)) with
 | none =>rw [h] at hK;refine ⟨rfl,?_⟩;simp only at hK;rw [show aK (E++[(key,0,clock)])=aK E++[(BC key,aC 0,clock)] by unfold aK;rw [List.map_append];rfl] at hK;exact hK
 | some i =>
  rw [h] at hK;rw [List.findIdx?_eq_some_iff_getElem] at h;obtain ⟨hi,hx,_⟩:=h;have hx:key=E[i].1:=of_decide_eq_true hx;have hg:(aK E)[i]?=some (BC E[i].1,aC E[i].2.1,E[i].2.2):=by rw [List.getElem?_map,List.getElem?_eq_getElem hi];rfl
  simp only [List.getElem?_eq_getElem hi] at hK;refine ⟨_,hg,⟨mK E[i].1,rfl,by rw [hx];exact L9 _⟩,?_⟩;rw [hx,C2 hg];exact hK
theorem Q5 {s v:Operand} {n:Int} {t:TypeId} {born:Nat} (hm:aN fr m=.om j) (hs:aN fr s=aC (born:Nat)) (hv:aN fr v=aC n) (hj:hp[j]?=some (.map (aK E) clock)) (hB:og B E) (hn:0≤n∧n≤B+1) (hb:∃ x ∈ E,x.2.2=born)
  (hK:∀ E':List oy,og (B+1) E'→K .bX (hp.set j (.map (aK E') clock))):RM.wpOp TT own (.entryStore t m s v) fr hp K:=by
 show eU (aN fr m) (aN fr s) (aN fr v) hp K;rw [hm,hs,hv]
 cases hf:((aK E).map fun p=>((p.2.2:Nat):Int)).findIdx? (· == (born:Int)) with
 | none =>exfalso;rw [List.findIdx?_eq_none_iff] at hf;obtain ⟨x,hx,e⟩:=hb;have:=hf ((x.2.2:Nat):Int) (List.mem_map.2 ⟨_,List.mem_map.2 ⟨x,hx,rfl⟩,rfl⟩);rw [e] at this;simp at this
 | some i =>
  have hi:i < E.length:=by rw [List.findIdx?_eq_some_iff_getElem] at hf;obtain ⟨h,_⟩:=hf;simpa using h
  have hg:(aK E)[i]?=some (BC E[i].1,aC E[i].2.1,E[i].2.2):=by rw [List.getElem?_map,List.getElem?_eq_getElem hi];rfl
  refine ⟨_,_,_,i,_,hj,rfl,hf,hg,?_⟩
  have:=hK (E.set i (E[i].1,n,E[i].2.2)) (fun x hx=>by
   rcases List.mem_or_eq_of_mem_set hx with hx|rfl
   ·exact ⟨(hB x hx).1,by have:=(hB x hx).2;omega⟩
   ·exact hn)
  rw [show aK (E.set i (E[i].1,n,E[i].2.2))=(aK E).set i (BC E[i].1,aC n,E[i].2.2) by unfold aK;rw [List.map_set]] at this;exact this
end
set_option maxHeartbeats 4000000
abbrev ud (R:List Nat):List (List AV):=R.map fun f=>[eF f]
theorem sS (R:List Nat):(0:Nat)+R.length * 1≤(R.map eF).length∧(ud R).length=R.length∧(∀ el ∈ ud R,el.length=1)∧(ud R).flatten=((R.map eF).drop 0).take (R.length * 1) :=
 ⟨by rw [List.length_map];omega,by simp,fun el hel=>by obtain ⟨o,_,rfl⟩:=List.mem_map.1 hel;rfl,by
  rw [List.drop_zero,List.take_of_length_le (by rw [List.length_map];omega)]
  induction R with
  | nil=>rfl
  | cons a l ih=>show eF a :: (ud l).flatten=_;rw [ih];rfl⟩
theorem DC:∀ R:List Nat,cC (ud R).flatten=true
 | []=>rfl
 | _ :: l=>DC l
theorem HY (R:List Nat) (f:Nat):R.map eF++[[eF f]].flatten=(R++[f]).map eF:=by rw [List.map_append];rfl
theorem Mc (one:Bool) {s:ai} (hg:Good s):Pu one 67 [.ag (ay s)] (.sl (ud (aI s)) false):=by
 have h3:=hg.len;have hld:=hg.load;have hp8:2 ^ s.needs.length≤2 ^ 3:=Nat.pow_le_pow_right (by decide) h3.2;have hp1:1≤2 ^ s.needs.length:=Nat.one_le_two_pow;have hl8:(s.needs.map aQ).length < 8:=by rw [List.length_map];omega
 have hpe:2 ^ (s.needs.map aQ).length=2 ^ s.needs.length:=by rw [List.length_map]
 have eg:((s.needs.map aQ).length:Int)=s.needs.length:=by simp
 obtain ⟨nn,hnn⟩:∃ n:Int,n=s.needs.length:=⟨_,rfl⟩;have hfin:∀ S:List Nat,lR S (jY s (2 ^ s.needs.length - 1)).length→S.Perm (jY s (2 ^ s.needs.length - 1))→S=aI s:=fun S h1 h2=>Ft hg h2.length_eq h1 h2;refine aj.body (fn:=Tryz.f67) rfl rfl rfl rfl ?_;refine qq2 ?_;repeat' first|refine u1 ?_|refine u2 ?_|fail
 refine av.scope ?_;refine qq2 ?_;repeat' first|refine u1 ?_|refine u2 ?_|fail
 refine av.seq ?_;refine qq2 ?_;repeat' first|refine u1 ?_|refine u2 ?_|fail
 refine av.block ?_;refine av.aJ (ah.trans (ah.jl 1) (ah.Gi (l:=[(1,.pt (ay s) 0),(2,.bg 0 0 0 (([]:List Nat)).length 0),(3,kO (0+1))]) (hp:=[k9 [] 0]) 1 rfl ⟨aW.refl _,aW.jk,aW.refl _,trivial⟩ (qq5 _) rfl (fy _ _))) ?_;refine av.loop (fun x:Nat × Nat × Nat=>x.1+1≤2 ^ s.needs.length∧(x.2.2=(jY s x.1).length∨x.2.2=(jY s x.1).length+1)) (fun x=>⟨aZ [(1,.pt (ay s) 0),(2,.bg 0 x.2.1 0 ((jY s x.1)).length x.2.2),(3,kO (x.1+1))],[k9 (jY s x.1) x.2.1],bA.none,false,0⟩) (fun x=>8 - x.1) ?_ (0,0,0) ⟨hp1,.inl rfl⟩;rintro ⟨k,aA,c⟩ ⟨hk,hc⟩;dsimp only at hk hc;have hln:=Dz (s:=s) k;have hsc:=qk (s:=s) (k:=k);have hlast:k+1=2 ^ s.needs.length→jY s k=jY s (2 ^ s.needs.length - 1):=fun e=>by rw [←e];rfl
 have hmR:∀ f ∈ jY s k,1≤f∧f < 8:=fun f hf=>by have:=(pG.1 hf).1;omega
 show av _ _ _ _ ⟨aZ [(1,.pt (ay s) 0),(2,.bg 0 aA 0 ((jY s k)).length c),(3,kO (k+1))],[k9 (jY s k) aA],bA.none,false,0⟩ _
 generalize jY s k=R at *
 by_cases hlt:k+1 < 2 ^ s.needs.length
 ·have d1:decide (((k+1:Nat):Int) < ((2 ^ (s.needs.map aQ).length:Nat):Int))=true:=decide_eq_true (by rw [hpe];omega);obtain ⟨hvl,hvi⟩:=zP (f:=k+1) hlt (by omega);have ol:=QT one (f:=k+1) (by omega);have hfu:k+1 < 18446744073709551615:=by omega
  have ow1:=Dd one hg (aL (k+1)) false hvl hvi;have ow2:=Dd true hg (aL (k+1)) false hvl hvi;have hwb:=Da hg (aL (k+1))
  generalize hW:tR s (aL (k+1))=W at *
  by_cases hw:W≤s.load
  ·have d2:decide (s.load < W)=false:=decide_eq_false (by omega);refine qq2 ?_;repeat' first|((with_reducible show bk _ _ _ _ _ _ _ _ _);refine RM.Gr rfl rfl hl8 ?_)|((with_reducible show bk _ _ _ _ _ _ _ _ _);refine RM.LC rfl rfl ?_)|refine u1 ?_|refine u2 ?_|fail
   refine av.seq ?_;refine av.block ?_;refine qq2 ?_;repeat' first|refine u1 ?_|((with_reducible refine qq3 ?_);refine aj.call ol rfl rfl ?_)|refine u2 ?_|fail
   refine qq2 ?_;repeat' first|refine u1 ?_|refine u2 ?_|fail
   refine av.seq ?_;refine qq2 ?_;repeat' first|refine u1 ?_|refine u2 ?_|fail
   refine av.block ?_;refine av.aJ (ah.to (l:=[(1,.pt (ay s) 0),(2,.bg 0 aA 0 (R).length c),(3,kO (k+1)),(4,.sl (ints (aL (k+1))) false),(27,.sl (s.needs.map aQ) false),(28,aC nn),(29,aC (0:Nat))]) (hp:=[k9 R aA]) 1 rfl ⟨rfl,rfl,rfl,rfl,rfl,bq (by rw [hnn];exact eg),rfl,trivial⟩ (qq5 _) rfl (fy _ _)) ?_;refine av.loop (fun n:Nat=>n≤s.needs.length∧xB s (k+1) n=true) (fun n=>⟨aZ [(1,.pt (ay s) 0),(2,.bg 0 aA 0 (R).length c),(3,kO (k+1)),(4,.sl (ints (aL (k+1))) false),(27,.sl (s.needs.map aQ) false),(28,aC nn),(29,aC (n:Nat))],[k9 R aA],bA.none,false,0⟩) (fun n=>s.needs.length - n) ?_ 0 ⟨qq5 _,rfl⟩;rintro n ⟨hn,hfk⟩;have hks:=Fs (s:=s) (f:=k+1) (k:=n);have hke:=fun h=>HP (s:=s) (f:=k+1) (k:=n) h;rw [hW] at hks hke;by_cases hnl:n < s.needs.length
   ·have d3:decide ((n:Int) < nn)=true:=decide_eq_true (by omega);have hn8:n < 8:=by omega
    have hat:(s.needs.map aQ)[((n:Nat):Int).toNat]?=some (aQ s.needs[n]):=bp hnl;have hww:s.needs[n].weight=DW s (n:Nat):=by unfold DW;rw [Int.toNat_natCast,List.getElem?_eq_getElem hnl]
    have hab:=Ll hg (n:Nat);have hfm:(k+1) / 2 ^ n < 18446744073709551616:=Nat.lt_of_le_of_lt (Nat.div_le_self _ _) (by omega)
    have hbit:(k+1) / 2 ^ n % 2=if (k+1).testBit n=true then 1 else 0:=by
     rw [Nat.testBit_eq_decide_div_mod_eq];have:=Nat.mod_two_eq_zero_or_one ((k+1) / 2 ^ n)
     rcases this with e|e <;> rw [e] <;> simp
    rw [←hww] at hks hke hab
    cases hbt:(k+1).testBit n with
    | true =>
     rw [hbt,if_pos rfl] at hbit;rw [hbt,hfk] at hks;have d4:decide (((((k+1) / 2 ^ n % 2:Nat)):Int)=0)=false:=decide_eq_false (by rw [hbit];decide)
     generalize s.needs[n]=g at *
     refine qq1 ?_;repeat' first|((with_reducible show bk _ _ _ _ _ _ _ _ _);refine RM.w9 rfl rfl hn8 ?_)|((with_reducible show bk _ _ _ _ _ _ _ _ _);refine RM.qY rfl rfl hfm ?_)|((with_reducible show bk _ _ _ _ _ _ _ _ _);refine RM.EY rfl rfl ?_)|refine u1 ?_|((with_reducible refine qq4 ?_);refine ⟨aQ g,⟨by omega,hat⟩,rfl,?_⟩)|refine u2 ?_|fail
     exact ⟨n+1,⟨hnl,hks⟩,(by dsimp only;omega),ah.to 1 rfl ⟨rfl,rfl,rfl,rfl,rfl,rfl,bq (by simp),trivial⟩ (qq5 _) rfl (fy _ _)⟩
    | false =>
     rw [hbt,if_neg (by simp)] at hbit;rw [hbt,hfk,Bool.false_or,Bool.true_and] at hks;have d4:decide (((((k+1) / 2 ^ n % 2:Nat)):Int)=0)=true:=decide_eq_true (by rw [hbit];decide);by_cases hle:W+s.needs[n].weight≤s.load
     ·have d5:=decide_eq_true hle;have hfb:=hke hnl hbt hle;have hs0:jY s (k+1)=R:=by rw [hsc,if_neg (by rw [hfb];simp)]
      generalize s.needs[n]=g at *
      refine qq1 ?_;repeat' first|((with_reducible show bk _ _ _ _ _ _ _ _ _);refine RM.w9 rfl rfl hn8 ?_)|((with_reducible show bk _ _ _ _ _ _ _ _ _);refine RM.qY rfl rfl hfm ?_)|((with_reducible show bk _ _ _ _ _ _ _ _ _);refine RM.EY rfl rfl ?_)|((with_reducible refine qq3 ?_);refine aj.call ow2 rfl rfl ?_)|refine u1 ?_|((with_reducible refine qq4 ?_);refine ⟨aQ g,⟨by omega,hat⟩,rfl,?_⟩)|refine u2 ?_|fail
      refine qq1 ?_;repeat' first|((with_reducible show bk _ _ _ _ _ _ _ _ _);refine RM.LD rfl rfl hfu ?_)|refine u1 ?_|refine u2 ?_|fail
      exact ⟨(k+1,aA,c),⟨(by dsimp only;omega),by dsimp only;rw [hs0];exact hc⟩,(by dsimp only;omega),ah.to 1 (by dsimp only;rw [hs0];rfl) ⟨rfl,(by rw [hs0];rfl),rfl,trivial⟩ (qq5 _) rfl (fy _ _)⟩
     ·have d5:=decide_eq_false hle;rw [decide_eq_true (by omega)] at hks
      generalize s.needs[n]=g at *
      refine qq1 ?_;repeat' first|((with_reducible show bk _ _ _ _ _ _ _ _ _);refine RM.w9 rfl rfl hn8 ?_)|((with_reducible show bk _ _ _ _ _ _ _ _ _);refine RM.qY rfl rfl hfm ?_)|((with_reducible show bk _ _ _ _ _ _ _ _ _);refine RM.EY rfl rfl ?_)|((with_reducible refine qq3 ?_);refine aj.call ow2 rfl rfl ?_)|refine u1 ?_|((with_reducible refine qq4 ?_);refine ⟨aQ g,⟨by omega,hat⟩,rfl,?_⟩)|refine u2 ?_|fail
      exact ⟨n+1,⟨hnl,hks⟩,(by dsimp only;omega),ah.to 1 rfl ⟨rfl,rfl,rfl,rfl,rfl,rfl,bq (by simp),trivial⟩ (qq5 _) rfl (fy _ _)⟩
   ·have d3:decide ((n:Int) < nn)=false:=decide_eq_false (by omega);have hfb:iU s (k+1)=true:=by unfold iU;rw [hW,decide_eq_true hw,←show n=s.needs.length by omega,hfk];rfl
    have hs1:jY s (k+1)=R++[k+1]:=by rw [hsc,if_pos hfb]
    refine qq1 ?_;repeat' first|refine u1 ?_|refine u2 ?_|fail
    refine qq1 ?_;repeat' first|((with_reducible show RM.wpOp _ _ (.call _) _ _ _);refine RM.l5 (cs:=R.map eF) (n:=R.length) (els:=[[eF (k+1)]]) rfl rfl rfl rfl rfl (fun el hel=>by rw [List.mem_singleton.1 hel];rfl) rfl rfl (by rw [List.length_map];exact (Nat.mul_one _).symm) hc (by simp only [List.length_singleton];omega) (fun v' c' hc'=>?_))|refine u1 ?_|refine u2 ?_|fail
    refine qq1 ?_;repeat' first|((with_reducible show bk _ _ _ _ _ _ _ _ _);refine RM.LD rfl rfl hfu ?_)|refine u1 ?_|refine u2 ?_|fail
    exact ⟨(k+1,v',c'),⟨(by dsimp only;omega),by dsimp only;rw [hs1,List.length_append];exact hc'⟩,(by dsimp only;omega),ah.to 1 (by dsimp only;rw [hs1];show _=[AB.cells ((R++[k+1]).map eF) 1 v'];rw [←HY];rfl) ⟨rfl,(by rw [hs1,List.length_append];rfl),rfl,trivial⟩ (qq5 _) rfl (fy _ _)⟩
  ·have d2:decide (s.load < W)=true:=decide_eq_true (by omega);have hfb:iU s (k+1)=false:=by unfold iU;rw [hW,decide_eq_false hw,Bool.false_and]
   have hs0:jY s (k+1)=R:=by rw [hsc,if_neg (by rw [hfb];simp)]
   refine qq1 ?_;repeat' first|((with_reducible show bk _ _ _ _ _ _ _ _ _);refine RM.Gr rfl rfl hl8 ?_)|((with_reducible show bk _ _ _ _ _ _ _ _ _);refine RM.LC rfl rfl ?_)|((with_reducible show bk _ _ _ _ _ _ _ _ _);refine RM.LD rfl rfl hfu ?_)|refine u1 ?_|((with_reducible refine qq3 ?_);refine aj.call ol rfl rfl ?_)|refine u2 ?_|fail
   exact ⟨(k+1,aA,c),⟨(by dsimp only;omega),by dsimp only;rw [hs0];exact hc⟩,(by dsimp only;omega),ah.to 1 (by dsimp only;rw [hs0];rfl) ⟨rfl,(by rw [hs0];rfl),rfl,trivial⟩ (qq5 _) rfl (fy _ _)⟩
 ·have d1:decide (((k+1:Nat):Int) < ((2 ^ (s.needs.map aQ).length:Nat):Int))=false:=decide_eq_false (by rw [hpe];omega);rw [←hlast (by omega)] at hfin;refine qq1 ?_;repeat' first|((with_reducible show bk _ _ _ _ _ _ _ _ _);refine RM.Gr rfl rfl hl8 ?_)|((with_reducible show bk _ _ _ _ _ _ _ _ _);refine RM.LC rfl rfl ?_)|refine u1 ?_|refine u2 ?_|fail
  refine qq1 ?_;repeat' first|(refine Q1 _ R R.length rfl (by omega) hmR (fun S hso hpe=>?_))|refine u1 ?_|refine u2 ?_|fail
  have hSl:S.length=R.length:=hpe.length_eq;have e:=hfin S hso hpe;subst e;rw [←hSl];exact ⟨[_],⟨Fz.row (es:=1) rfl (sS _).1 (sS _).2.1 (sS _).2.2.1 (sS _).2.2.2 (DC _) (fun h=>Bool.noConfusion h),trivial⟩,rfl⟩
