/-
  Contracts of the program's functions and of the document's. Lemmas alone; their conditions stand in them.
-/
import Derived.Test.YtlpmfgmldmdggaaGreatA2
import Derived.Test.YtlpmfgmldmdggaaGreatA3
import Derived.Test.YtlpmfgmldmdggaaGreatX1
import Derived.Test.YtlpmfgmldmdggaaGreatK1
import Derived.Test.YtlpmfgmldmdggaaGreatK10
import Derived.Laws.StructEq
open Go Go.RM
namespace Go.Proofs.YtlpmfgmldmdggaaGreat
set_option maxRecDepth 100000
abbrev Fk:Sh:=.int .i64
abbrev Hf:Sh:=.cons .str (.cons Fk (.cons Fk (.cons Fk (.cons Fk .nil))))
abbrev Jj:Sh:=.cons .str (.cons Fk (.cons Fk (.cons .bool .nil)))
abbrev Hg:Sh:=.cons (.slice Hf) (.cons (.slice Jj) (.cons Fk .nil))
abbrev J3:Sh:=.cons Fk (.cons Fk (.cons Fk (.cons Fk .nil)))
theorem Fv {l:List AV} (h:TV Fk l):∃ n,(Lit.int .i64 n).wf=true∧l=eI n:=by
 cases h with
 | int h=>exact ⟨_,h,rfl⟩
theorem Md {l:List AV} (h:TV .bool l):∃ b,l=[BB b]:=by
 cases h with
 | bool=>exact ⟨_,rfl⟩
theorem LH {l:List AV} (h:TV .str l):∃ s:ByteArray,s.size≤maxLen∧l=[ST s]:=by
 cases h with
 | str h=>exact ⟨_,h,rfl⟩
theorem Cv {a b:Sh} {l:List AV} (h:TV (.cons a b) l):∃ x y,TV a x∧TV b y∧l=x++y:=by
 cases h with
 | cons h k=>exact ⟨_,_,h,k,rfl⟩
theorem K8 {l:List AV} (h:TV .nil l):l=[]:=by cases h;rfl
theorem Lt {s:Sh} {l:List AV} (h:TV (.slice s) l):∃ els,els.length≤maxLen∧(∀ el ∈ els,TV s el)∧l=[.sl els false]:=by
 cases h with
 | slice h k=>exact ⟨_,h,k,rfl⟩
theorem Ei {α:Type} {e:α→List AV} {P:α→Prop}:∀ {els:List (List AV)},(∀ el ∈ els,∃ x,P x∧el=e x)→∃ l:List α,(∀ x ∈ l,P x)∧els=l.map e
 | [],_=>⟨[],⟨List.forall_mem_nil _,rfl⟩⟩
 | el :: els,h=>by
  obtain ⟨x,hx,rfl⟩:=h el (by simp)
  obtain ⟨l,hl,rfl⟩:=Ei fun el hel=>h el (List.mem_cons_of_mem _ hel)
  exact ⟨x :: l,⟨List.forall_mem_cons.2 ⟨hx,hl⟩,rfl⟩⟩
theorem J4 {n:Int} (h:(Lit.int .i64 n).wf=true):n≤later:=by
 have h1:IntKind.i64.min=-9223372036854775808:=rfl
 have h2:IntKind.i64.max=9223372036854775807:=rfl
 simp [Lit.wf] at h
 show n≤9223372036854775807
 omega
theorem J5 {l:List AV} (h:TV Hf l):∃ x:fL,x.name.data.toList.length≤maxLen∧l=bA x:=by
 obtain ⟨_,_,h1,k1,rfl⟩:=Cv h
 obtain ⟨_,_,h2,k2,rfl⟩:=Cv k1
 obtain ⟨_,_,h3,k3,rfl⟩:=Cv k2
 obtain ⟨_,_,h4,k4,rfl⟩:=Cv k3
 obtain ⟨_,_,h5,k5,rfl⟩:=Cv k4
 obtain rfl:=K8 k5
 obtain ⟨a,ha,rfl⟩:=LH h1
 obtain ⟨b,_,rfl⟩:=Fv h2
 obtain ⟨c,_,rfl⟩:=Fv h3
 obtain ⟨d,_,rfl⟩:=Fv h4
 obtain ⟨e,_,rfl⟩:=Fv h5
 exact ⟨⟨a,b,c,d,e⟩,by simpa using ha,rfl⟩
theorem KZ {l:List AV} (h:TV Jj l):∃ x:nQ,x.name.data.toList.length≤maxLen∧l=bp x:=by
 obtain ⟨_,_,h1,k1,rfl⟩:=Cv h
 obtain ⟨_,_,h2,k2,rfl⟩:=Cv k1
 obtain ⟨_,_,h3,k3,rfl⟩:=Cv k2
 obtain ⟨_,_,h4,k4,rfl⟩:=Cv k3
 obtain rfl:=K8 k4
 obtain ⟨a,ha,rfl⟩:=LH h1
 obtain ⟨b,_,rfl⟩:=Fv h2
 obtain ⟨c,_,rfl⟩:=Fv h3
 obtain ⟨d,rfl⟩:=Md h4
 exact ⟨⟨a,b,c,d⟩,by simpa using ha,rfl⟩
theorem J6 {l:List AV} (h:TV Hg l):∃ c:ay,c.Ok∧l=aF c:=by
 obtain ⟨_,_,h1,k1,rfl⟩:=Cv h
 obtain ⟨_,_,h2,k2,rfl⟩:=Cv k1
 obtain ⟨_,_,h3,k3,rfl⟩:=Cv k2
 obtain rfl:=K8 k3
 obtain ⟨a,ha,ha',rfl⟩:=Lt h1
 obtain ⟨a,hn,rfl⟩:=Ei (e:=bA) fun el hel=>J5 (ha' el hel)
 obtain ⟨b,hb,hb',rfl⟩:=Lt h2
 obtain ⟨b,hm,rfl⟩:=Ei (e:=bp) fun el hel=>KZ (hb' el hel)
 obtain ⟨d,_,rfl⟩:=Fv h3
 exact ⟨⟨a,b,d⟩,⟨by simpa using ha,hn,by simpa using hb,hm⟩,rfl⟩
theorem Lu {l:List AV} (h:TV J3 l):∃ x:Ev,x.day≤later∧l=cZ x:=by
 obtain ⟨_,_,h1,k1,rfl⟩:=Cv h
 obtain ⟨_,_,h2,k2,rfl⟩:=Cv k1
 obtain ⟨_,_,h3,k3,rfl⟩:=Cv k2
 obtain ⟨_,_,h4,k4,rfl⟩:=Cv k3
 obtain rfl:=K8 k4
 obtain ⟨a,ha,rfl⟩:=Fv h1
 obtain ⟨b,_,rfl⟩:=Fv h2
 obtain ⟨c,_,rfl⟩:=Fv h3
 obtain ⟨d,_,rfl⟩:=Fv h4
 exact ⟨⟨a,b,c,d⟩,J4 ha,rfl⟩
theorem K0 {l:List AV} (h:TV (.slice J3) l):∃ p:List Ev,p.length≤maxLen∧(∀ x ∈ p,x.day≤later)∧l=[.sl (p.map cZ) false]:=by
 obtain ⟨a,ha,ha',rfl⟩:=Lt h
 obtain ⟨a,hc,rfl⟩:=Ei (e:=cZ) fun el hel=>Lu (ha' el hel)
 exact ⟨a,by simpa using ha,hc,rfl⟩
theorem K1:∀ e ∈ TB,gA TT e:=by
 intro e he
 unfold TB at he
 rw [List.mem_singleton.1 he]
 exact KI
end Go.Proofs.YtlpmfgmldmdggaaGreat
open Go Go.RM
namespace Go.Proofs.YtlpmfgmldmdggaaGreat
set_option maxRecDepth 100000
end Go.Proofs.YtlpmfgmldmdggaaGreat
open Go Go.RM
namespace Go.Proofs.YtlpmfgmldmdggaaGreat
set_option maxRecDepth 100000
section
variable {P : Program}
theorem Du {t : TypeId} {d : TypeDesc} (h : P.underlying t = some d) : au P (underlying t) = some d := by
  unfold underlying
  rw [aY]
  show au P (match P.underlying t with | some d => pure d | none => stuck "no such type") = some d
  rw [h]
  rfl
theorem pY {e : TypeId} (he : P.underlying e = some (.int .i64)) (xs : Array Value) (off : Nat) (v : Value) (h : xs[off]? = some v) : au P (part e xs off) = some v := by
  unfold part isAgg
  rw [aY, aY, Du he]
  show au P (match xs[off]? with | some v => pure v | none => stuck "part: no such cell") = some v
  rw [h]
  rfl
theorem J7 (d:Nat) {e:TypeId} (he:P.underlying e=some (.int .i64)) (a b:Int):au P (Op.equalIn (d+1) e (.int .i64 a) (.int .i64 b))=some (a == b):=by
 rw [Op.equalIn,aY,Du he]
 rfl
theorem J8 (d:Nat) {t e:TypeId} (ht:P.underlying t=some (.array 3 e)) (he:P.underlying e=some (.int .i64)) (hs:au P (sizeOf e)=some 1) (a0 a1 a2 b0 b1 b2:Int) :
  au P (Op.equalIn (d+1+1) t (.agg #[.int .i64 a0,.int .i64 a1,.int .i64 a2]) (.agg #[.int .i64 b0,.int .i64 b1,.int .i64 b2]))=some (decide (a0=b0) && (decide (a1=b1) && decide (a2=b2))):=by
 have p0:=pY he #[.int .i64 a0,.int .i64 a1,.int .i64 a2] 0 (.int .i64 a0) rfl
 have p1:=pY he #[.int .i64 a0,.int .i64 a1,.int .i64 a2] 1 (.int .i64 a1) rfl
 have p2:=pY he #[.int .i64 a0,.int .i64 a1,.int .i64 a2] 2 (.int .i64 a2) rfl
 have q0:=pY he #[.int .i64 b0,.int .i64 b1,.int .i64 b2] 0 (.int .i64 b0) rfl
 have q1:=pY he #[.int .i64 b0,.int .i64 b1,.int .i64 b2] 1 (.int .i64 b1) rfl
 have q2:=pY he #[.int .i64 b0,.int .i64 b1,.int .i64 b2] 2 (.int .i64 b2) rfl
 have h3:=J7 d he
 rw [Op.equalIn,aY,Du ht]
 simp only [Option.bind_some]
 rw [aY,hs]
 simp only [Option.bind_some]
 simp only [Std.Legacy.Range.forIn_eq_forIn_range',Std.Legacy.Range.size,Nat.sub_zero,Nat.div_one,List.range'_succ,List.range'_zero,List.forIn_cons,List.forIn_nil,Nat.zero_add,Nat.mul_one,Nat.reduceAdd,aY,p0,q0,h3,Option.bind_some]
 by_cases e0:a0=b0 <;> by_cases e1:a1=b1 <;> by_cases e2:a2=b2 <;> simp [e0,e1,e2,q1,q2,h3,aY,j8]
 all_goals try simp_all
 all_goals try rfl
 all_goals
  show ((some (ForInStep.yield (none,()))).bind _).bind _=_
  simp only [Option.bind_some,aY,p2,q2,h3]
  rw [if_pos (by simp [e2])]
  rfl
end
theorem Fl {P:Program} (d:Nat) (t:TypeId) (xs ys:Array Value) (ht:P.underlying t=some (.struct (P.fieldsOf t))) (hp:P.stoodInHeld t=false) :
  au P (Op.equalIn (d+1) t (.agg xs) (.agg ys))=au P (Op.eqFields d xs ys (P.fieldsOf t).toList):=by
 have hu:au P (underlying t)=some (.struct (P.fieldsOf t)):=by
  unfold underlying
  simp only [aY]
  show au P _=_
  simp [ht]
  rfl
 have hg:au P program=some P:=rfl
 simp only [Op.equalIn,aY,hu,hg,hp,Option.bind_some,Bool.false_eq_true,if_false]
 rw [←Array.forIn_toList]
 generalize (P.fieldsOf t).toList=fs
 clear ht hu
 induction fs with
 | nil=>rfl
 | cons f fs ih =>
  simp only [List.forIn_cons,Op.eqFields,aY]
  split
  ·simp only [aY]
   cases au P (part f.type xs f.offset) with
   | none=>rfl
   | some a =>
    simp only [Option.bind_some]
    cases au P (part f.type ys f.offset) with
    | none=>rfl
    | some b =>
     simp only [Option.bind_some]
     cases au P (Op.equalIn d f.type a b) with
     | none=>rfl
     | some r =>
      cases r
      ·rfl
      ·exact ih
  ·exact ih
def vI (n:Int):Value:=.int .i64 n
theorem eq_int {d:Nat} (a:Int):au TT.P (Op.equalIn (d+1) 3 (vI a) (vI a))=some true:=by
 show some (a == a)=_
 rw [beq_self_eq_true]
theorem sG {d:Nat} {P:Program} {xs ys:Array Value}:∀ {L:List Field},(∀ f ∈ L,∃ a b,au P (part f.type xs f.offset)=some a∧au P (part f.type ys f.offset)=some b∧au P (Op.equalIn d f.type a b)=some true)→au P (Op.eqFields d xs ys L)=some true
 | [],_=>rfl
 | f :: L,h=>by
  obtain ⟨a,b,h1,h2,h3⟩:=h f (by simp)
  have ih:=sG (L:=L) fun g hg=>h g (by simp [hg])
  unfold Op.eqFields
  split
  ·simp only [aY,h1,h2,h3,Option.bind_some]
   exact ih
  ·exact ih
theorem Hh:((TT.P.fieldsOf 62).toList.all fun f=>(f.type == 3 && (f.offset == 0 || f.offset == 1)) || (f.type == 60 && f.offset == 2))=true:=by kernel_rfl
theorem K2 (d:Nat) (x y z:Int):au TT.P (Op.equalIn (d+1+1) 60 (.agg #[vI x,vI y,vI z]) (.agg #[vI x,vI y,vI z]))=some true:=by
 have:=J8 (P:=TT.P) d (t:=60) (e:=3) Tryz.underlying60 Tryz.underlying3 (by kernel_rfl) x y z x y z
 simp only [decide_true,Bool.and_self] at this
 exact this
theorem J9 (p o x y z:Int):au TT.P (Op.equalIn 10000 62 (.agg #[vI p,vI o,vI x,vI y,vI z]) (.agg #[vI p,vI o,vI x,vI y,vI z]))=some true:=by
 rw [Fl 9999 62 _ _ (by kernel_rfl) (by kernel_rfl)]
 apply sG
 intro f hf
 have hh:=List.all_eq_true.1 Hh f hf
 simp only [Bool.or_eq_true,Bool.and_eq_true,beq_iff_eq] at hh
 rcases hh with ⟨h1,h2|h2⟩|⟨h1,h2⟩
 ·rw [h1,h2]
  exact ⟨vI p,vI p,rfl,rfl,eq_int p⟩
 ·rw [h1,h2]
  exact ⟨vI o,vI o,rfl,rfl,eq_int o⟩
 ·rw [h1,h2]
  exact ⟨.agg #[vI x,vI y,vI z],.agg #[vI x,vI y,vI z],rfl,rfl,K2 9997 x y z⟩
theorem IP {u w:Operand} (p o x y z:Int):lT TT.P .neq 62 u w (.agg #[vI p,vI o,vI x,vI y,vI z]) (.agg #[vI p,vI o,vI x,vI y,vI z])=some (.bool false,.none):=by
 show fG TT.P .neq 62 u w (.agg #[vI p,vI o,vI x,vI y,vI z]) (.agg #[vI p,vI o,vI x,vI y,vI z])=_
 unfold fG
 rw [show (flat (.agg #[vI p,vI o,vI x,vI y,vI z]) && flat (.agg #[vI p,vI o,vI x,vI y,vI z]))=true from rfl,cond_true,aY]
 rw [show au TT.P (eqGuard .neq 62 u w (.agg #[vI p,vI o,vI x,vI y,vI z]) (.agg #[vI p,vI o,vI x,vI y,vI z]))=some () by
  show au TT.P (if (!(TT.P.eqGuardType TT.P.depth 62))=true then _ else _)=_
  rw [show TT.P.eqGuardType TT.P.depth 62=false by kernel_rfl];rfl]
 show cU (au TT.P (Op.equal 62 _ _ >>= fun r=>pure (Value.bool (!r))))=_
 rw [aY]
 show cU ((au TT.P (Op.equalIn 10000 62 _ _)).bind _)=_
 rw [J9]
 rfl
section
variable {hp : List AB} {K : AV → List AB → Prop} {x y : Operand} {a b : AV} {p o d0 d1 d2 : Int}
theorem Lv (ha:a=.ag [ah p,ah o,ah d0,ah d1,ah d2]) (hb:b=.ag [ah p,ah o,ah d0,ah d1,ah d2]) (h:K (BB false) hp):iQ TT .neq 62 x y a b hp K:=by
 subst ha hb
 exact ⟨_,_,rfl,rfl,_,IP (u:=x) (w:=y) p o d0 d1 d2,rfl,h⟩
end
end Go.Proofs.YtlpmfgmldmdggaaGreat
open Go Go.RM
namespace Go.Proofs.YtlpmfgmldmdggaaGreat
set_option maxRecDepth 100000
end Go.Proofs.YtlpmfgmldmdggaaGreat
open Go Go.RM
namespace Go.Proofs.YtlpmfgmldmdggaaGreat
set_option maxRecDepth 100000
set_option maxHeartbeats 4000000
end Go.Proofs.YtlpmfgmldmdggaaGreat
open Go Go.RM
namespace Go.Proofs.YtlpmfgmldmdggaaGreat
set_option maxRecDepth 100000
set_option maxHeartbeats 4000000
end Go.Proofs.YtlpmfgmldmdggaaGreat
open Go Go.RM
namespace Go.RM
end Go.RM
namespace Go.Proofs.YtlpmfgmldmdggaaGreat
set_option maxRecDepth 100000
set_option maxHeartbeats 4000000
theorem zk {α:Type} {g:α→AV} (h:∀ x,(g x).deep=true):∀ l:List α,de (l.map g)=true
 | []=>rfl
 | x :: l=>by
  show ((g x).deep && de (l.map g))=true
  rw [h x,zk h l]
  rfl
theorem Cm {α:Type} (n:Nat) {g:α→AV} (h:∀ x,(g x).ig n=true):∀ l:List α,sq n (l.map g)=true
 | []=>rfl
 | x :: l=>by
  show ((g x).ig n && sq n (l.map g))=true
  rw [h x,Cm n h l]
  rfl
abbrev gh (l:List Int):List AV:=l.map ah
theorem kF:∀ l:List Int,(ints l).flatten=gh l
 | []=>rfl
 | x :: l=>by
  show ah x :: (ints l).flatten=_
  rw [kF l]
  rfl
theorem tH (l:List Int):de (gh l)=true:=zk (fun _=>rfl) l
theorem Hi (j:Nat) (l:List Int) (v:Nat):AB.ig j (.cells (gh l) 1 v)=true:=Cm j (fun _=>rfl) _
theorem ey (l:List Int) (v:Nat):([.cells (gh l) 1 v]:List AB).all (AB.ig 1)=true:=by
 simp only [List.all_cons,List.all_nil,Hi,Bool.and_true]
theorem Hj {hp:List AB} {j v cc n:Nat} {l:List Int} (hj:hp[j]?=some (.cells (gh l) 1 v)) (hn:l.length=n):Fz hp (.cS j v 0 n cc) (.sl (ints l) false) :=
 Fz.row (es:=1) hj (by rw [List.length_map];omega) (by rw [List.length_map];exact hn) (fun el hel=>by obtain ⟨x,_,rfl⟩:=List.mem_map.1 hel;rfl) (by rw [kF,List.drop_zero,List.take_of_length_le (by rw [List.length_map];omega)]) (by rw [kF];exact tH _) (fun h=>Bool.noConfusion h)
structure Me (a:Acc):Prop where
 nn:0≤a.d0∧0≤a.d1∧0≤a.d2
 sum:a.d0+a.d1+a.d2≤40000
end Go.Proofs.YtlpmfgmldmdggaaGreat
open Go Go.RM
namespace Go.Proofs.YtlpmfgmldmdggaaGreat
set_option maxRecDepth 100000
set_option maxHeartbeats 4000000
theorem Hl {S:List Int} {k:Nat} {x:Int} (h:S[k]?=some x):(gh S)[0+((k:Nat):Int).toNat * 1]?=some (ah x):=by
 rw [Int.toNat_natCast,Nat.zero_add,Nat.mul_one,List.getElem?_map,h]
 rfl
theorem Cn {S:List Int} {k:Nat} (h:k < S.length) (x:Int):cX (gh S) [ah x] (0+((k:Nat):Int).toNat * 1)=gh (S.set k x):=by
 rw [Int.toNat_natCast,Nat.zero_add,Nat.mul_one]
 unfold cX
 show _=(S.set k x).map ah
 rw [List.map_set,List.set_eq_take_append_cons_drop,if_pos (by rw [List.length_map];exact h),List.length_singleton,List.append_assoc]
 rfl
theorem vg {c:ay} {l:List Ev} (h:Vd c l) {D:Int} (hD:0≤D∧D≤40000):(Dk c l D).length=c.aG.length∧∀ a ∈ Dk c l D,Me a:=by
 rw [Ji h hD.1]
 refine ⟨by simp,fun a ha=>?_⟩
 obtain ⟨i,_,rfl⟩:=List.mem_map.1 ha
 have hb:=(JU (c:=c) (i:=i) h.mono hD.1)
 exact ⟨hb.1,Int.le_trans hb.2 hD.2⟩
theorem xz {c:ay} {l:List Ev} (hd:∀ x ∈ l,x.day≤later) {D:Int} (h:qO c l D=0):(va c l).2=0∧Vd c l∧0≤D∧D≤40000:=by
 unfold qO at h
 split at h
 ·rename_i h1;exact absurd h h1
 ·rename_i h1
  have h1:=Decidable.not_not.1 h1
  split at h
  ·cases h
  ·rename_i h2
   exact ⟨h1,J2 hd h1,cC (Bool.not_eq_true _ ▸ h2)⟩
end Go.Proofs.YtlpmfgmldmdggaaGreat
open Go Go.RM
namespace Go.Proofs.YtlpmfgmldmdggaaGreat
set_option maxRecDepth 100000
set_option maxHeartbeats 4000000
theorem IQ (one:Bool) (c:ay) (h:c.Ok) (l:List Ev) (f:Bool) (hl:l.length≤maxLen) (hd:∀ x ∈ l,x.day≤later) (D:Int):Pu one 64 [.ag (aF c),.sl (l.map cZ) f,ah D] (ah (qO c l D)):=by
 have o1:=uC one c h l f hl hd
 have o2:=iH one D 0 40000
 unfold qO
 rw [bD]
 by_cases h1:(va c l).2=0
 ·rw [if_neg (fun h=>h h1)]
  rw [h1] at o1
  generalize (va c l).1=a at *
  have q0:decide ((0:Int)=0)=true:=rfl
  cases e:lP D 0 40000 with
  | true =>
   rw [e] at o2
   rw [if_neg (by simp)]
   refine af.body (fn:=Tryz.f64) rfl rfl rfl rfl ?_
   refine aa (mu:=fun _=>false) ?_
   repeat' (first |refine u1 ?_ |((with_reducible show ai _ _ _ _ _ _ _ _);refine af.call o1 rfl rfl ?_) |((with_reducible show ai _ _ _ _ _ _ _ _);refine af.call o2 rfl rfl ?_) |refine u2 ?_ |fail)
   exact ⟨[_],⟨Fz.deep rfl,trivial⟩,rfl⟩
  | false =>
   rw [e] at o2
   rw [if_pos (by simp)]
   refine af.body (fn:=Tryz.f64) rfl rfl rfl rfl ?_
   refine aa (mu:=fun _=>false) ?_
   repeat' (first |refine u1 ?_ |((with_reducible show ai _ _ _ _ _ _ _ _);refine af.call o1 rfl rfl ?_) |((with_reducible show ai _ _ _ _ _ _ _ _);refine af.call o2 rfl rfl ?_) |refine u2 ?_ |fail)
   exact ⟨[_],⟨Fz.deep rfl,trivial⟩,rfl⟩
 ·rw [if_pos h1]
  have q0:=decide_eq_false h1
  generalize (va c l).1=a at *
  generalize (va c l).2=e at *
  refine af.body (fn:=Tryz.f64) rfl rfl rfl rfl ?_
  refine aa (mu:=fun _=>false) ?_
  repeat' (first |refine u1 ?_ |((with_reducible show ai _ _ _ _ _ _ _ _);refine af.call o1 rfl rfl ?_) |refine u2 ?_ |fail)
  exact ⟨[_],⟨Fz.deep rfl,trivial⟩,rfl⟩
end Go.Proofs.YtlpmfgmldmdggaaGreat
open Go Go.RM
namespace Go.Proofs.YtlpmfgmldmdggaaGreat
set_option maxRecDepth 100000
set_option maxHeartbeats 4000000
theorem zl (one:Bool) (a:List Int) (f g:Bool) (hb:a.length≤maxLen):Pu one 25 [.sl (ints a) f,.sl (ints a) g] (BB true):=by
 have mb:a.length≤9223372036854775807:=Nat.le_trans hb (by simp [maxLen])
 have ea:((a.map eI).length:Int)=a.length:=by simp
 have d0:(!decide (((a.map eI).length:Int)=((a.map eI).length:Int)))=false:=by rw [decide_eq_true rfl];rfl
 refine af.body (fn:=Tryz.f25) rfl rfl rfl rfl ?_
 refine aa (mu:=fun _=>false) ?_
 repeat' (first |refine u1 ?_ |refine u2 ?_ |fail)
 refine aC.bx (aj.to (l:=[(0,.sl (a.map eI) f),(1,.sl (a.map eI) g),(5,ah (0:Nat))]) (hp:=[]) 0 rfl ⟨rfl,rfl,rfl,trivial⟩ (Nat.zero_le _) rfl rfl) ?_
 refine aC.loop (fun k:Nat=>k≤a.length) (fun k=>⟨bM [(0,.sl (a.map eI) f),(1,.sl (a.map eI) g),(5,ah (k:Nat))],[],bw.none,false,0⟩) (fun k=>a.length - k) ?_ 0 (Nat.zero_le _)
 intro k hk
 by_cases hlt:k < a.length
 ·have d1:decide ((k:Int) < ((a.map eI).length:Int))=true:=decide_eq_true (by omega)
  have hat:(a.map eI)[((k:Nat):Int).toNat]?=some (eI a[k]):=bG hlt
  generalize a[k]=x at *
  have d2:(!decide (x=x))=false:=by rw [decide_eq_true rfl];rfl
  refine aa (mu:=fun _=>false) ?_
  repeat' (first |refine u1 ?_ |((with_reducible show RM.wpOp _ _ (.indexAddr _ _ _) _ _ _);refine ⟨eI x,⟨by omega,hat⟩,rfl,?_⟩) |refine u2 ?_ |fail)
  exact ⟨k+1,hlt,(by dsimp only;omega),aj.to 0 rfl ⟨rfl,rfl,cK (by simp),trivial⟩ (Nat.zero_le _) rfl rfl⟩
 ·have d1:decide ((k:Int) < ((a.map eI).length:Int))=false:=decide_eq_false (by omega)
  refine aa (mu:=fun _=>false) ?_
  repeat' (first |refine u1 ?_ |refine u2 ?_ |fail)
  exact ⟨[_],⟨Fz.deep rfl,trivial⟩,rfl⟩
theorem Ka (one:Bool) (a:List Acc) (f g:Bool) (hb:a.length≤maxLen):Pu one 22 [.sl (a.map bu) f,.sl (a.map bu) g] (BB true):=by
 have mb:a.length≤9223372036854775807:=Nat.le_trans hb (by simp [maxLen])
 have ea:((a.map bu).length:Int)=a.length:=by simp
 have d0:(!decide (((a.map bu).length:Int)=((a.map bu).length:Int)))=false:=by rw [decide_eq_true rfl];rfl
 refine af.body (fn:=Tryz.f22) rfl rfl rfl rfl ?_
 refine aa (mu:=fun _=>false) ?_
 repeat' (first |refine u1 ?_ |refine u2 ?_ |fail)
 refine aC.bx (aj.to (l:=[(0,.sl (a.map bu) f),(1,.sl (a.map bu) g),(5,ah (0:Nat))]) (hp:=[]) 0 rfl ⟨rfl,rfl,rfl,trivial⟩ (Nat.zero_le _) rfl rfl) ?_
 refine aC.loop (fun k:Nat=>k≤a.length) (fun k=>⟨bM [(0,.sl (a.map bu) f),(1,.sl (a.map bu) g),(5,ah (k:Nat))],[],bw.none,false,0⟩) (fun k=>a.length - k) ?_ 0 (Nat.zero_le _)
 intro k hk
 by_cases hlt:k < a.length
 ·have d1:decide ((k:Int) < ((a.map bu).length:Int))=true:=decide_eq_true (by omega)
  have hat:(a.map bu)[((k:Nat):Int).toNat]?=some (bu a[k]):=bG hlt
  generalize a[k]=x at *
  obtain ⟨p,o,d0,d1,d2⟩:=x
  have hat:(a.map bu)[((k:Nat):Int).toNat]?=some [ah p,ah o,ah d0,ah d1,ah d2]:=hat
  refine aa (mu:=fun _=>false) ?_
  repeat' (first |((with_reducible show iQ _ _ _ _ _ _ _ _ _);refine Lv rfl rfl ?_) |refine u1 ?_ |(refine ⟨[ah p,ah o,ah d0,ah d1,ah d2],⟨by omega,hat⟩,rfl,?_⟩) |refine u2 ?_ |fail)
  exact ⟨k+1,hlt,(by dsimp only;omega),aj.to 0 rfl ⟨rfl,rfl,cK (by simp),trivial⟩ (Nat.zero_le _) rfl rfl⟩
 ·have d1:decide ((k:Int) < ((a.map bu).length:Int))=false:=decide_eq_false (by omega)
  refine aa (mu:=fun _=>false) ?_
  repeat' (first |refine u1 ?_ |refine u2 ?_ |fail)
  exact ⟨[_],⟨Fz.deep rfl,trivial⟩,rfl⟩
end Go.Proofs.YtlpmfgmldmdggaaGreat
open Go Go.RM
namespace Go.Proofs.YtlpmfgmldmdggaaGreat
set_option maxRecDepth 100000
set_option maxHeartbeats 4000000
end Go.Proofs.YtlpmfgmldmdggaaGreat
open Go Go.RM
namespace Go.Proofs.YtlpmfgmldmdggaaGreat
set_option maxRecDepth 100000
structure Mf (rb rc rd F T a0 a1 a2 b0 b1 b2 x y z:Int):Prop where
 a:0≤a0∧0≤a1∧0≤a2
 ab:a0≤b0∧a1≤b1∧a2≤b2
 b:b0≤40000∧b1≤40000∧b2≤40000
 p:(0≤(b1 - a1) * rc∧(b1 - a1) * rc≤40000000)∧(0≤(b2 - a2) * rd∧(b2 - a2) * rd≤40000000)
 d:0≤rb * ((b0 - a0) * 1000+(b1 - a1) * rc+(b2 - a2) * rd)∧rb * ((b0 - a0) * 1000+(b1 - a1) * rc+(b2 - a2) * rd)≤40000000000
 t:0≤rb * (T - F)∧rb * (T - F)≤40000000
 xy:0≤x∧0≤y
 fz:x+y=z
 le:z≤rb * (T - F)
 up:z * 1000 - rb * ((b0 - a0) * 1000+(b1 - a1) * rc+(b2 - a2) * rd) < 1000
 dn:rb * ((b0 - a0) * 1000+(b1 - a1) * rc+(b2 - a2) * rd) - z * 1000 < 1000
end Go.Proofs.YtlpmfgmldmdggaaGreat
open Go Go.RM
namespace Go.Proofs.YtlpmfgmldmdggaaGreat
set_option maxRecDepth 100000
set_option maxHeartbeats 4000000
end Go.Proofs.YtlpmfgmldmdggaaGreat
open Go Go.RM
namespace Go.Proofs.YtlpmfgmldmdggaaGreat
set_option maxRecDepth 100000
set_option maxHeartbeats 4000000
end Go.Proofs.YtlpmfgmldmdggaaGreat
open Go Go.RM
namespace Go.Proofs.YtlpmfgmldmdggaaGreat
set_option maxRecDepth 100000
def jP (S:List Int) (p:Nat):Int:=S.getD p 0
def xA (S:List Int) (j:Nat):List Int:=(S.set j (jP S (j - 1))).set (j - 1) (jP S j)
theorem Dv (S:List Int) {j:Nat} (hj:j < S.length):(xA S j).Perm S:=by
 unfold xA jP
 have h1:j - 1 < S.length:=by omega
 rw [List.getD_eq_getElem?_getD,List.getD_eq_getElem?_getD (i:=j),List.getElem?_eq_getElem h1,List.getElem?_eq_getElem hj]
 exact List.set_set_perm hj h1
theorem Fm (S:List Int) {j:Nat} (hj:j < S.length) (q:Nat):jP (xA S j) q=if q=j - 1 then jP S j else if q=j then jP S (j - 1) else jP S q:=by
 unfold xA jP
 rw [List.getD_eq_getElem?_getD,List.getElem?_set,List.getElem?_set]
 by_cases h1:j - 1=q
 ·subst h1
  rw [if_pos rfl,if_pos (by rw [List.length_set];omega),if_pos rfl]
  rfl
 ·rw [if_neg h1,if_neg (show ¬ q=j - 1 from fun h=>h1 h.symm)]
  by_cases h2:j=q
  ·subst h2
   rw [if_pos rfl,if_pos hj,if_pos rfl]
   rfl
  ·rw [if_neg h2,if_neg (show ¬ q=j from fun h=>h2 h.symm),List.getD_eq_getElem?_getD]
structure uV (rk:Int→Int) (S:List Int) (N m:Nat):Prop where
 Lw:∀ p q:Nat,p < q→q < m→rk (jP S p)≤rk (jP S q)
 late:∀ p q:Nat,p < q→m≤q→q < N→jP S p < jP S q
structure sH (rk:Int→Int) (S:List Int) (N i j:Nat):Prop where
 others:∀ p q:Nat,p < q→q≤i→p ≠ j→q ≠ j→rk (jP S p)≤rk (jP S q)
 above:∀ q:Nat,j < q→q≤i→rk (jP S j)≤rk (jP S q)
 Lx:∀ p:Nat,p≤i→p ≠ j→jP S p < jP S j
 late:∀ p q:Nat,p < q→i < q→q < N→jP S p < jP S q
theorem sH.start {rk:Int→Int} {S:List Int} {N i:Nat} (hi:i < N) (h:uV rk S N i):sH rk S N i i :=
 ⟨fun p q h1 h2 h3 h4=>h.Lw p q h1 (by omega),fun q h1 h2=>by omega,fun p h1 h2=>h.late p i (by omega) (Nat.le_refl _) hi,fun p q h1 h2 h3=>h.late p q h1 (by omega) h3⟩
theorem sH.swap {rk:Int→Int} {S:List Int} {N i j:Nat} (h:sH rk S N i j) (hi:i < S.length) (hj:j≤i) (h0:0 < j) (hl:rk (jP S j) < rk (jP S (j - 1))):sH rk (xA S j) N i (j - 1):=by
 have hg:=fun q=>Fm S (j:=j) (by omega) q
 constructor
 ·intro p q h1 h2 h3 h4
  rw [hg p,hg q,if_neg h3,if_neg h4]
  by_cases hp:p=j
  ·rw [if_pos hp,if_neg (by omega)]
   exact h.others (j - 1) q (by omega) h2 (by omega) (by omega)
  ·rw [if_neg hp]
   by_cases hq:q=j
   ·rw [if_pos hq]
    exact h.others p (j - 1) (by omega) (by omega) hp (by omega)
   ·rw [if_neg hq]
    exact h.others p q h1 h2 hp hq
 ·intro q h1 h2
  rw [hg (j - 1),hg q,if_pos rfl,if_neg (by omega)]
  by_cases hq:q=j
  ·rw [if_pos hq];omega
  ·rw [if_neg hq]
   exact h.above q (by omega) h2
 ·intro p h1 h2
  rw [hg (j - 1),hg p,if_pos rfl,if_neg h2]
  by_cases hp:p=j
  ·rw [if_pos hp]
   exact h.Lx (j - 1) (by omega) (by omega)
  ·rw [if_neg hp]
   exact h.Lx p h1 hp
 ·intro p q h1 h2 h3
  rw [hg p,hg q,if_neg (show ¬ q=j - 1 by omega),if_neg (show ¬ q=j by omega)]
  split
  ·exact h.late j q (by omega) h2 h3
  ·split
   ·exact h.late (j - 1) q (by omega) h2 h3
   ·exact h.late p q h1 h2 h3
theorem sH.done {rk:Int→Int} {S:List Int} {N i j:Nat} (h:sH rk S N i j) (hd:j=0∨rk (jP S (j - 1))≤rk (jP S j)):uV rk S N (i+1):=by
 refine ⟨fun p q h1 h2=>?_,fun p q h1 h2 h3=>h.late p q h1 (by omega) h3⟩
 by_cases hp:p=j
 ·rw [hp];exact h.above q (by omega) (by omega)
 ·by_cases hq:q=j
  ·rcases hd with hd|hd
   ·omega
   ·rw [hq]
    by_cases hpj:p=j - 1
    ·rw [hpj];exact hd
    ·exact Int.le_trans (h.others p (j - 1) (by omega) (by omega) hp (by omega)) hd
  ·exact h.others p q h1 (by omega) hp hq
theorem IU {S:List Int} {q:Nat} (h:q < S.length):jP S q ∈ S:=by
 unfold jP
 rw [List.getD_eq_getElem?_getD,List.getElem?_eq_getElem h]
 exact List.getElem_mem _
theorem Kc {S:List Int} {q:Nat} (h:q < S.length):S[q]?=some (jP S q):=by
 unfold jP
 rw [List.getD_eq_getElem?_getD,List.getElem?_eq_getElem h]
 rfl
theorem Ho {rk:Int→Int} {S:List Int} {N:Nat} (hN:S.length=N) (h:uV rk S N N):S.Pairwise fun a b=>rk a≤rk b:=by
 rw [List.pairwise_iff_getElem]
 intro p q hp hq h1
 have:=h.Lw p q h1 (by omega)
 unfold jP at this
 rw [List.getD_eq_getElem?_getD,List.getElem?_eq_getElem hp,List.getD_eq_getElem?_getD,List.getElem?_eq_getElem hq] at this
 exact this
theorem Hq {rk:Int→Int} {S T:List Int} (hi:∀ a ∈ S,∀ b ∈ S,rk a=rk b→a=b) (h1:S.Pairwise fun a b=>rk a≤rk b) (h2:T.Pairwise fun a b=>rk a≤rk b) (hp:S.Perm T):S=T :=
 List.Perm.eq_of_pairwise (le:=fun a b=>rk a≤rk b) (fun a b ha hb h h'=>hi a ha b (hp.mem_iff.2 hb) (Int.le_antisymm h h')) h1 h2 hp
def sI (rk:Int→Int) (m:Int):List Int→List Int
 | []=>[m]
 | x :: l=>if rk x < rk m then x :: sI rk m l else m :: x :: l
def lS (rk:Int→Int) (L:List Int):List Int:=L.foldl (fun S m=>sI rk m S) []
theorem tI (rk:Int→Int) (m:Int):∀ l:List Int,(sI rk m l).Perm (l++[m])
 | []=>List.Perm.refl _
 | x :: l=>by
  unfold sI
  split
  ·exact (tI rk m l).cons x
  ·exact List.perm_append_comm (l₁:=[m]) (l₂:=x :: l)
theorem Co {rk:Int→Int} {m:Int}:∀ {l:List Int},(l.Pairwise fun a b=>rk a≤rk b)→(sI rk m l).Pairwise fun a b=>rk a≤rk b
 | [],_=>List.pairwise_singleton _ _
 | x :: l,h=>by
  unfold sI
  obtain ⟨h1,h2⟩:=List.pairwise_cons.1 h
  split
  ·rename_i hx
   refine List.pairwise_cons.2 ⟨fun y hy=>?_,Co h2⟩
   rcases List.mem_append.1 ((tI rk m l).mem_iff.1 hy) with hy|hy
   ·exact h1 y hy
   ·rw [List.mem_singleton.1 hy];omega
  ·rename_i hx
   refine List.pairwise_cons.2 ⟨fun y hy=>?_,h⟩
   rcases List.mem_cons.1 hy with rfl|hy
   ·omega
   ·have:=h1 y hy;omega
theorem Dw (rk:Int→Int) (L:List Int) (m:Int):lS rk (L++[m])=sI rk m (lS rk L):=by
 unfold lS
 rw [List.foldl_append]
 rfl
theorem xB (rk:Int→Int):∀ (L S:List Int),(S.Pairwise fun a b=>rk a≤rk b)→(L.foldl (fun S m=>sI rk m S) S).Perm (S++L)∧(L.foldl (fun S m=>sI rk m S) S).Pairwise fun a b=>rk a≤rk b
 | [],S,h=>⟨by rw [List.append_nil];exact List.Perm.refl _,h⟩
 | m :: L,S,h=>by
  obtain ⟨h1,h2⟩:=xB rk L (sI rk m S) (Co h)
  refine ⟨h1.trans ?_,h2⟩
  have:=(tI rk m S).append_right L
  rw [List.append_assoc] at this
  exact this
theorem nH (rk:Int→Int) (L:List Int):(lS rk L).Perm L∧(lS rk L).Pairwise fun a b=>rk a≤rk b:=by
 have:=xB rk L [] List.Pairwise.nil
 rw [List.nil_append] at this
 exact this
end Go.Proofs.YtlpmfgmldmdggaaGreat
