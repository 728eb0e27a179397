/-
  Contracts of the program's functions and of the document's. Lemmas alone; their conditions stand in them.
-/
import Derived.Test.YtlpmfgmldmdggaaGreatA3
import Derived.Test.YtlpmfgmldmdggaaGreatA2
import Derived.Test.YtlpmfgmldmdggaaGreatA4
import Derived.Test.YtlpmfgmldmdggaaGreatK13
import Derived.Test.YtlpmfgmldmdggaaGreatK11
namespace Go.RM
open Go
theorem wrap_i64 {n:Int} (h0:0≤n) (h1:n < 9223372036854775808):IntKind.wrap .i64 n=n:=by
 have hm:n % 18446744073709551616=n:=Int.emod_eq_of_lt h0 (by omega)
 show (if (true && decide (n % 18446744073709551616 ≥ 9223372036854775808))=true then n % 18446744073709551616 - 18446744073709551616 else n % 18446744073709551616)=n
 rw [hm,if_neg (by simp;omega)]
theorem bits_or {w m n:Nat} (hm:m < 2 ^ w) (hn:n < 2 ^ w):(BitVec.ofInt w (m:Int) ||| BitVec.ofInt w (n:Int)).toNat=m ||| n:=by
 rw [BitVec.toNat_or,BitVec.ofInt_natCast,BitVec.ofInt_natCast,BitVec.toNat_ofNat,BitVec.toNat_ofNat,Nat.mod_eq_of_lt hm,Nat.mod_eq_of_lt hn]
section
variable {T : bh} {a b : AV} {t : TypeId} {x y : Operand} {hp : List AB} {K : AV → List AB → Prop}
end
end Go.RM
namespace Go.RM
open Go
theorem bits_and {w m n:Nat} (hm:m < 2 ^ w) (hn:n < 2 ^ w):(BitVec.ofInt w (m:Int) &&& BitVec.ofInt w (n:Int)).toNat=m &&& n:=by
 rw [BitVec.toNat_and,BitVec.ofInt_natCast,BitVec.ofInt_natCast,BitVec.toNat_ofNat,BitVec.toNat_ofNat,Nat.mod_eq_of_lt hm,Nat.mod_eq_of_lt hn]
theorem bin_shl64 {P:Program} {t:TypeId} {x y:Operand} {j:Nat} (hj:j < 8):lT P .shl t x y (.int .i64 1) (.int .i64 (j:Int))=some (.int .i64 ((2 ^ j:Nat):Int),.none):=by
 match j,hj with
 | 0,_|1,_|2,_|3,_|4,_|5,_|6,_|7,_=>rfl
section
variable {T : bh} {a b : AV} {t : TypeId} {x y : Operand} {hp : List AB} {K : AV → List AB → Prop}
theorem bshl64 {j:Nat} (ha:a=.fl (.int .i64 1)) (hb:b=.fl (.int .i64 (j:Int))) (hj:j < 8) (h:K (.fl (.int .i64 ((2 ^ j:Nat):Int))) hp):iQ T .shl t x y a b hp K:=by
 subst ha hb
 exact ⟨.int .i64 ((2 ^ j:Nat):Int),bin_shl64 hj,rfl,h⟩
end
end Go.RM
namespace Go.RM
open Go
section
variable {T : bh} {tab : List XE} {one : Bool} {fl base : Nat} {E E' E2 : Env} {hp hp' hp2 : List AB} {av amb' : bw} {H H' H2 : Hp} {ρ ρ2 : Nat → Nat → Option Nat} {g g2 : az} {O O2 : Nat → Prop} {r : Rec}
def OpX (T:bh) (o:Op) (st:aR) (Q:AV→List AB→Prop):Prop :=
 ∀ (E:Env) (base:Nat) (H:Hp) (tm:Tr Value),aK E base st.hp st.av H→nq E.ρ H.get (E.O st.hp) st.fr tm→dS base E st.hp st.av H (jS T H.n o (aL tm) H.get) Q
theorem aC.op1 {id:Nat} {dst:Option Tmp} {o:Op} {a1 a2 a3} {st:aR} {K:Exit→aR→Prop} (hk:cv o=.plain)
  (h:OpX T o st fun v hp'=>K .normal ⟨tf st.fr dst v,hp',st.av,st.rd,st.fl⟩):aC T tab one (.region id [⟨dst,o,a1,a2,a3,none⟩].toArray false) st K:=by
 intro E base s hs
 obtain ⟨u,e,E',v,hp',r1,r2,r3,r4,r5⟩:=h E base s.hp s.fr hs.h hs.fr
 refine ⟨0,[(.normal,⟨cP s.fr dst u,s.hp.app e,s.rd⟩)],?_,.single ⟨E',_,r2,rfl,⟨r3,hs.rd,jr (r4.DN.fr hs.h hs.fr) r5 dst⟩,r4.DN⟩⟩
 rw [dM]
 have:aH T (RX T tab 0) [⟨dst,o,a1,a2,a3,none⟩] [⟨dst,o,a1,a2,a3,none⟩] s=some [⟨cP s.fr dst u,s.hp.app e,s.rd⟩]:=by
  rw [bK]
  have:ee T (RX T tab 0) o s=some [(u,s.hp.app e)]:=by
   unfold ee
   simp only [hk,r1]
  simp only [aQ,cond_true,this,cT,fR]
 simp only [cond_false,this,List.map_cons,List.map_nil]
end
end Go.RM
namespace Go.RM
open Go
end Go.RM
namespace Go.RM
open Go
section
variable {T : bh} {own : Bool} {fr : Nat → AV} {hp : List AB} {K : AV → List AB → Prop} {t : TypeId} {s by' cy : Nat} {z : Option Value} {agg : Bool} {bO : List (Nat × Nat)}
end
end Go.RM
namespace Go.RM
open Go
inductive As (s st:aR):Prop
 | is (h:aj s st)
 | no (h:False)
theorem As.bx {s st:aR}:As s st→aj s st
 | .is h=>h
 | .no h=>h.elim
theorem cutAt {T:bh} {tab:List XE} {one:Bool} {a b:Code} {st st':aR} {K:Exit→aR→Prop} (h1:aC T tab one a st (yc (fun s=>As s st') K)) (h2:aC T tab one b st' K):aC T tab one (.seq a b) st K :=
 .seq (h1.mono fun e s h=>by cases e <;> first|exact .bx h.bx h2|exact h)
end Go.RM
namespace Go.RM
open Go
theorem bin_andi {P:Program} {t:TypeId} {x y:Operand} {m n:Nat} (hm:m < 4611686018427387904) (hn:n < 4611686018427387904):lT P .and t x y (.int .i64 (m:Int)) (.int .i64 (n:Int))=some (.int .i64 ((m &&& n:Nat):Int),.none):=by
 have h:lT P .and t x y (.int .i64 (m:Int)) (.int .i64 (n:Int))=some (.int .i64 (IntKind.wrap .i64 ((BitVec.ofInt 64 (m:Int) &&& BitVec.ofInt 64 (n:Int)).toNat:Int)),.none):=rfl
 have h1:m &&& n≤m:=Nat.and_le_left
 rw [h,bits_and (by omega) (by omega),wrap_i64 (by omega) (by omega)]
theorem bin_ori {P:Program} {t:TypeId} {x y:Operand} {m n:Nat} (hm:m < 4611686018427387904) (hn:n < 4611686018427387904):lT P .or t x y (.int .i64 (m:Int)) (.int .i64 (n:Int))=some (.int .i64 ((m ||| n:Nat):Int),.none):=by
 have h:lT P .or t x y (.int .i64 (m:Int)) (.int .i64 (n:Int))=some (.int .i64 (IntKind.wrap .i64 ((BitVec.ofInt 64 (m:Int) ||| BitVec.ofInt 64 (n:Int)).toNat:Int)),.none):=rfl
 have h1:m ||| n < 2 ^ 62:=Nat.or_lt_two_pow (n:=62) hm hn
 rw [h,bits_or (by omega) (by omega),wrap_i64 (by omega) (by omega)]
theorem bits_andNot {w m n:Nat} (hm:m < 2 ^ w) (hn:n < 2 ^ w):(BitVec.ofInt w (m:Int) &&& ~~~ BitVec.ofInt w (n:Int)).toNat=m &&& (2 ^ w - 1 - n):=by
 rw [BitVec.toNat_and,BitVec.toNat_not,BitVec.ofInt_natCast,BitVec.ofInt_natCast,BitVec.toNat_ofNat,BitVec.toNat_ofNat,Nat.mod_eq_of_lt hm,Nat.mod_eq_of_lt hn]
theorem bin_andnoti {P:Program} {t:TypeId} {x y:Operand} {m n:Nat} (hm:m < 4611686018427387904) (hn:n < 4611686018427387904):lT P .andNot t x y (.int .i64 (m:Int)) (.int .i64 (n:Int))=some (.int .i64 ((m &&& (18446744073709551615 - n):Nat):Int),.none):=by
 have h:lT P .andNot t x y (.int .i64 (m:Int)) (.int .i64 (n:Int))=some (.int .i64 (IntKind.wrap .i64 ((BitVec.ofInt 64 (m:Int) &&& ~~~ BitVec.ofInt 64 (n:Int)).toNat:Int)),.none):=rfl
 have h1:m &&& (18446744073709551615 - n)≤m:=Nat.and_le_left
 rw [h,bits_andNot (by omega) (by omega)]
 show some (Value.int .i64 (IntKind.wrap .i64 ((m &&& (18446744073709551615 - n):Nat):Int)),bS.none)=_
 rw [wrap_i64 (by omega) (by omega)]
section
variable {T : bh} {a b : AV} {t : TypeId} {x y : Operand} {hp : List AB} {K : AV → List AB → Prop}
theorem bandi {m n:Nat} (ha:a=.fl (.int .i64 (m:Int))) (hb:b=.fl (.int .i64 (n:Int))) (hm:m < 4611686018427387904) (hn:n < 4611686018427387904) (h:K (.fl (.int .i64 ((m &&& n:Nat):Int))) hp):iQ T .and t x y a b hp K:=by
 subst ha hb
 exact ⟨.int .i64 ((m &&& n:Nat):Int),bin_andi hm hn,rfl,h⟩
theorem bori {m n:Nat} (ha:a=.fl (.int .i64 (m:Int))) (hb:b=.fl (.int .i64 (n:Int))) (hm:m < 4611686018427387904) (hn:n < 4611686018427387904) (h:K (.fl (.int .i64 ((m ||| n:Nat):Int))) hp):iQ T .or t x y a b hp K:=by
 subst ha hb
 exact ⟨.int .i64 ((m ||| n:Nat):Int),bin_ori hm hn,rfl,h⟩
theorem bandni {m n:Nat} (ha:a=.fl (.int .i64 (m:Int))) (hb:b=.fl (.int .i64 (n:Int))) (hm:m < 4611686018427387904) (hn:n < 4611686018427387904) (h:K (.fl (.int .i64 ((m &&& (18446744073709551615 - n):Nat):Int))) hp):iQ T .andNot t x y a b hp K:=by
 subst ha hb
 exact ⟨.int .i64 ((m &&& (18446744073709551615 - n):Nat):Int),bin_andnoti hm hn,rfl,h⟩
end
section
variable {T : bh} {own : Bool} {fr : Nat → AV} {hp : List AB} {K : AV → List AB → Prop} {t : TypeId} {s by' cy : Nat} {z : Option Value} {agg : Bool} {bO : List (Nat × Nat)}
theorem sa0 {x:Operand} {cs:List AV} {o len:Nat} {e:TypeId} {els:List (List AV)} (hx:aS fr x=.pt cs o) (ht:T.ty.get t=some ⟨.array len e,s,by',z,agg,bO,cy⟩)
  (hb:o+len * cy≤cs.length) (h1:1≤cy) (he:els.length=len∧(∀ el ∈ els,el.length=cy)∧els.flatten=(cs.drop o).take (len * cy)) (k:K (.sl els true) hp):wpOp T own (.slice t x none none none) fr hp K:=by
 show z6 T t (aS fr x) none none hp K
 rw [hx]
 unfold z6
 simp only [ht]
 refine ⟨0,len,els,rfl,rfl,⟨Nat.zero_le _,Nat.le_refl _,hb⟩,h1,?_,by rw [Nat.beq_refl];exact k⟩
 rw [Nat.zero_mul,Nat.add_zero,Nat.sub_zero]
 exact he
end
inductive AsP (s st:aR) (P:Prop):Prop
 | is (h:aj s st) (p:P)
 | no (h:False)
theorem cutAtP {T:bh} {tab:List XE} {one:Bool} {a b:Code} {st:aR} (st':aR) (P:Prop) {K:Exit→aR→Prop} (h1:aC T tab one a st (yc (fun s=>AsP s st' P) K)) (h2:P→aC T tab one b st' K):aC T tab one (.seq a b) st K :=
 .seq (h1.mono fun e s h=>by
  cases e
  all_goals first
   | exact (match h with|.is h p=>.bx h (h2 p)|.no h=>h.elim)
   | exact h)
theorem eqNilX {T:bh} {t t':TypeId} {x:Operand} {st:aR} {els:List (List AV)} {f:Bool} {Q:AV→List AB→Prop} (hx:aS st.fr x=.sl els f) (ht:l9 T.P t=true)
  (hn:lT T.P .eql t x (.const (.slice none 0 0)) (.slice none 0 0) (.slice none 0 0)=some (.bool true,.none)) (hQ:∀ b:Bool,(b=true→els=[])→Q (.fl (.bool b)) st.hp):OpX T (.binOp .eql t x (.const (.slice none 0 0)) t') st Q:=by
 intro E base H tm hr hf
 show dS base E st.hp st.av H (lT T.P .eql t x (.const (.slice none 0 0)) (aL tm x) (.slice none 0 0)) Q
 have ha:=gR hf x
 rw [hx] at ha
 generalize aL tm x=u at *
 cases ha.jN with
 | nil =>
  rw [hn]
  exact .pure hr (.d (.fl rfl)) (hQ true fun _=>rfl)
 | sl q1 q2 q3 q4 q5 q6 q7 =>
  unfold lT
  simp only [ht,cond_true]
  exact .pure hr (.d (.fl rfl)) (hQ false fun h=>Bool.noConfusion h)
theorem fillZero_one (z:Value) (n:Nat):bT [z] n=List.replicate n z:=by
 unfold bT
 apply List.ext_getElem?
 intro i
 rw [List.getElem?_map,List.getElem?_replicate]
 by_cases h:i < n
 ·rw [List.getElem?_range h,if_pos h]
  show some ([z].getD (i % 1) undef)=_
  rw [Nat.mod_one]
  rfl
 ·rw [List.getElem?_eq_none (by rw [List.length_range];omega),if_neg h]
  rfl
theorem clearX {T:bh} {t e:TypeId} {x:Operand} {st:aR} {j ax o n c es:Nat} {cs:List AV} {inf:yh} {a1 a2 a3 a4 a5 a6} {z:Value} {Q:AV→List AB→Prop} (hx:aS st.fr x=.cS j ax o n c) (hn:1≤n) (hty:T.ty.get t=some ⟨.slice e,a1,a2,a3,a4,a5,a6⟩)
  (hi:elem? T t=some inf) (hs:inf.size=1) (hzf:bJ inf=true) (hz:((inf.zero.map fun z=>z.cells.toList).getD [])=[z]) (hz1:aP z=true) (hj:st.hp[j]?=some (.cells cs es ax)) (hb:o+n≤cs.length)
  (hQ:Q (.tp []) (st.hp.set j (.cells (cX cs (List.replicate n (.fl z)) o) es ax))):OpX T (.call ⟨.builtin .clear,[x].toArray,[t].toArray⟩) st Q:=by
 intro E base H tm hr hf
 show dS base E st.hp st.av H (nZ T t (aL tm x) H.get) Q
 have ha:=gR hf x
 rw [hx] at ha
 generalize aL tm x=u at *
 rcases ha.eE with ⟨k,hk,rfl⟩|⟨_,rfl,_⟩
 ·obtain ⟨cs',q1,q2⟩:=hr.cells hj hk
  unfold nZ
  simp only [hty,hi,q1,cells?,hs,hzf,hz,Nat.mul_one,fillZero_one]
  rw [show Nat.ble 1 n=true from Nat.ble_eq_true_of_le hn,show Nat.ble (o+n) cs'.length=true from Nat.ble_eq_true_of_le (by rw [←q2.1];exact hb)]
  simp only [Bool.and_self,cond_true]
  have hrep:fh E.ρ H.get (E.O st.hp) (List.replicate n (.fl z)) (List.replicate n z):=⟨by simp,fun i a u hi hu=>by
   rw [List.getElem?_replicate] at hi hu
   split at hi
   ·cases hi
    rw [if_pos (by assumption)] at hu
    cases hu
    exact .d (.fl hz1)
   ·cases hi⟩
  obtain ⟨p1,p2⟩:=hr.put (a:=.cells (cX cs (List.replicate n (.fl z)) o) es ax) (b:=.cells (splice cs' (List.replicate n z) o) true es) hj rfl rfl hk ⟨_,rfl,q2.splice hrep o⟩
  exact ⟨_,.put k _,E,_,_,rfl,hQ,p1,p2,.d (.tp rfl fun i x u hx _=>by cases hx)⟩
 ·omega
end Go.RM
open Go Go.RM
namespace Go.Proofs.YtlpmfgmldmdggaaGreat
set_option maxRecDepth 100000
set_option maxHeartbeats 4000000
structure Pln where
 turns:Int
 days:Int
 away:Int
abbrev ePln (p:Pln):List AV:=[ah p.turns,ah p.days,ah p.away]
def plE (t d w:Int):Int:=if lP t 1 4=false then 7 else if lP d 1 60=false then 7 else if lP w 1 2=false then 7 else 0
def cpE (c:ay) (p:Pln):Int:=if (nS c).2.2 ≠ 0 then (nS c).2.2 else plE p.turns p.days p.away
structure POk (p:Pln):Prop where
 turns:1≤p.turns∧p.turns≤4
 days:1≤p.days∧p.days≤60
 away:1≤p.away∧p.away≤2
theorem cp_ok {c:ay} {p:Pln} (h:cpE c p=0):Good c∧POk p:=by
 unfold cpE at h
 split at h
 ·rename_i h1;exact absurd h h1
 rename_i h1
 refine ⟨Ap (Decidable.not_not.1 h1),?_⟩
 unfold plE at h
 split at h
 ·cases h
 rename_i h2
 split at h
 ·cases h
 rename_i h3
 split at h
 ·cases h
 rename_i h4
 exact ⟨cM.1 ((Bool.not_eq_false _).mp h2),cM.1 ((Bool.not_eq_false _).mp h3),cM.1 ((Bool.not_eq_false _).mp h4)⟩
theorem checkplan_c (one:Bool) (c:ay) (h:c.Ok) (p:Pln):Pu one 29 [.ag (aF c),.ag (ePln p)] (ah (cpE c p)):=by
 have o1:=D5 one c h
 have o2:=jt one 1 4 p.turns
 have o3:=jt one 1 60 p.days
 have o4:=jt one 1 2 p.away
 rw [bD] at o2 o3 o4
 unfold cpE plE
 obtain ⟨t,d,w⟩:=p
 dsimp only at *
 generalize (nS c).1=a1 at *
 generalize (nS c).2.1=a2 at *
 by_cases e:(nS c).2.2=0
 ·rw [if_neg (by rw [e];simp)]
  rw [e] at o1
  have d0:(!decide ((0:Int)=0))=false:=by decide
  cases e2:lP t 1 4 with
  | false =>
   rw [e2] at o2
   rw [if_pos rfl]
   refine af.body (fn:=Tryz.f29) rfl rfl rfl rfl ?_
   refine aa (mu:=fun _=>false) ?_
   repeat' (first |refine u1 ?_ |((with_reducible show ai _ _ _ _ _ _ _ _);refine af.call o1 rfl rfl ?_) |((with_reducible show ai _ _ _ _ _ _ _ _);refine af.call o2 rfl rfl ?_) |refine u2 ?_ |fail)
   exact ⟨[_],⟨Fz.deep rfl,trivial⟩,rfl⟩
  | true =>
   rw [e2] at o2
   rw [if_neg (by decide)]
   cases e3:lP d 1 60 with
   | false =>
    rw [e3] at o3
    rw [if_pos rfl]
    refine af.body (fn:=Tryz.f29) rfl rfl rfl rfl ?_
    refine aa (mu:=fun _=>false) ?_
    repeat' (first |refine u1 ?_ |((with_reducible show ai _ _ _ _ _ _ _ _);refine af.call o1 rfl rfl ?_) |((with_reducible show ai _ _ _ _ _ _ _ _);refine af.call o2 rfl rfl ?_) |((with_reducible show ai _ _ _ _ _ _ _ _);refine af.call o3 rfl rfl ?_) |refine u2 ?_ |fail)
    exact ⟨[_],⟨Fz.deep rfl,trivial⟩,rfl⟩
   | true =>
    rw [e3] at o3
    rw [if_neg (by decide)]
    cases e4:lP w 1 2 with
    | false =>
     rw [e4] at o4
     rw [if_pos rfl]
     refine af.body (fn:=Tryz.f29) rfl rfl rfl rfl ?_
     refine aa (mu:=fun _=>false) ?_
     repeat' (first |refine u1 ?_ |((with_reducible show ai _ _ _ _ _ _ _ _);refine af.call o1 rfl rfl ?_) |((with_reducible show ai _ _ _ _ _ _ _ _);refine af.call o2 rfl rfl ?_) |((with_reducible show ai _ _ _ _ _ _ _ _);refine af.call o3 rfl rfl ?_) |((with_reducible show ai _ _ _ _ _ _ _ _);refine af.call o4 rfl rfl ?_) |refine u2 ?_ |fail)
     exact ⟨[_],⟨Fz.deep rfl,trivial⟩,rfl⟩
    | true =>
     rw [e4] at o4
     rw [if_neg (by decide)]
     refine af.body (fn:=Tryz.f29) rfl rfl rfl rfl ?_
     refine aa (mu:=fun _=>false) ?_
     repeat' (first |refine u1 ?_ |((with_reducible show ai _ _ _ _ _ _ _ _);refine af.call o1 rfl rfl ?_) |((with_reducible show ai _ _ _ _ _ _ _ _);refine af.call o2 rfl rfl ?_) |((with_reducible show ai _ _ _ _ _ _ _ _);refine af.call o3 rfl rfl ?_) |((with_reducible show ai _ _ _ _ _ _ _ _);refine af.call o4 rfl rfl ?_) |refine u2 ?_ |fail)
     exact ⟨[_],⟨Fz.deep rfl,trivial⟩,rfl⟩
 ·rw [if_pos e]
  have d1:(!decide ((nS c).2.2=0))=true:=by rw [decide_eq_false e];rfl
  generalize (nS c).2.2=e5 at *
  refine af.body (fn:=Tryz.f29) rfl rfl rfl rfl ?_
  refine aa (mu:=fun _=>false) ?_
  repeat' (first |refine u1 ?_ |((with_reducible show ai _ _ _ _ _ _ _ _);refine af.call o1 rfl rfl ?_) |refine u2 ?_ |fail)
  exact ⟨[_],⟨Fz.deep rfl,trivial⟩,rfl⟩
theorem rcheckplan_c (one:Bool) (c:ay) (h:c.Ok) (p:Pln):Pu one 30 [.ag (aF c),.ag (ePln p)] (ah (cpE c p)):=by
 have o1:=B0 one c h
 have o2:=iH one p.turns 1 4
 have o3:=iH one p.days 1 60
 have o4:=iH one p.away 1 2
 unfold cpE plE
 obtain ⟨t,d,w⟩:=p
 dsimp only at *
 generalize (nS c).1=a1 at *
 generalize (nS c).2.1=a2 at *
 by_cases e:(nS c).2.2=0
 ·rw [if_neg (by rw [e];simp)]
  rw [e] at o1
  have d0:decide ((0:Int)=0)=true:=by decide
  cases e2:lP t 1 4 with
  | false =>
   rw [e2] at o2
   rw [if_pos rfl]
   refine af.body (fn:=Tryz.f30) rfl rfl rfl rfl ?_
   refine aa (mu:=fun _=>false) ?_
   repeat' (first |refine u1 ?_ |((with_reducible show ai _ _ _ _ _ _ _ _);refine af.call o1 rfl rfl ?_) |((with_reducible show ai _ _ _ _ _ _ _ _);refine af.call o2 rfl rfl ?_) |refine u2 ?_ |fail)
   exact ⟨[_],⟨Fz.deep rfl,trivial⟩,rfl⟩
  | true =>
   rw [e2] at o2
   rw [if_neg (by decide)]
   cases e3:lP d 1 60 with
   | false =>
    rw [e3] at o3
    rw [if_pos rfl]
    refine af.body (fn:=Tryz.f30) rfl rfl rfl rfl ?_
    refine aa (mu:=fun _=>false) ?_
    repeat' (first |refine u1 ?_ |((with_reducible show ai _ _ _ _ _ _ _ _);refine af.call o1 rfl rfl ?_) |((with_reducible show ai _ _ _ _ _ _ _ _);refine af.call o2 rfl rfl ?_) |((with_reducible show ai _ _ _ _ _ _ _ _);refine af.call o3 rfl rfl ?_) |refine u2 ?_ |fail)
    exact ⟨[_],⟨Fz.deep rfl,trivial⟩,rfl⟩
   | true =>
    rw [e3] at o3
    rw [if_neg (by decide)]
    cases e4:lP w 1 2 with
    | false =>
     rw [e4] at o4
     rw [if_pos rfl]
     refine af.body (fn:=Tryz.f30) rfl rfl rfl rfl ?_
     refine aa (mu:=fun _=>false) ?_
     repeat' (first |refine u1 ?_ |((with_reducible show ai _ _ _ _ _ _ _ _);refine af.call o1 rfl rfl ?_) |((with_reducible show ai _ _ _ _ _ _ _ _);refine af.call o2 rfl rfl ?_) |((with_reducible show ai _ _ _ _ _ _ _ _);refine af.call o3 rfl rfl ?_) |((with_reducible show ai _ _ _ _ _ _ _ _);refine af.call o4 rfl rfl ?_) |refine u2 ?_ |fail)
     exact ⟨[_],⟨Fz.deep rfl,trivial⟩,rfl⟩
    | true =>
     rw [e4] at o4
     rw [if_neg (by decide)]
     refine af.body (fn:=Tryz.f30) rfl rfl rfl rfl ?_
     refine aa (mu:=fun _=>false) ?_
     repeat' (first |refine u1 ?_ |((with_reducible show ai _ _ _ _ _ _ _ _);refine af.call o1 rfl rfl ?_) |((with_reducible show ai _ _ _ _ _ _ _ _);refine af.call o2 rfl rfl ?_) |((with_reducible show ai _ _ _ _ _ _ _ _);refine af.call o3 rfl rfl ?_) |((with_reducible show ai _ _ _ _ _ _ _ _);refine af.call o4 rfl rfl ?_) |refine u2 ?_ |fail)
     exact ⟨[_],⟨Fz.deep rfl,trivial⟩,rfl⟩
 ·rw [if_pos e]
  have d1:decide ((nS c).2.2=0)=false:=decide_eq_false e
  generalize (nS c).2.2=e5 at *
  refine af.body (fn:=Tryz.f30) rfl rfl rfl rfl ?_
  refine aa (mu:=fun _=>false) ?_
  repeat' (first |refine u1 ?_ |((with_reducible show ai _ _ _ _ _ _ _ _);refine af.call o1 rfl rfl ?_) |refine u2 ?_ |fail)
  exact ⟨[_],⟨Fz.deep rfl,trivial⟩,rfl⟩
def hsV (l:List Int) (n:Int):Bool:=l.any fun x=>decide (x=n)
theorem hsV_take {l:List Int} {k:Nat} {z:Int} (h:l[k]?=some z) (n:Int):hsV (l.take (k+1)) n=(hsV (l.take k) n || decide (z=n)):=by
 unfold hsV
 rw [List.take_add_one,h,List.any_append]
 simp
theorem has_c (one:Bool) (l:List Int) (f:Bool) (hl:l.length≤maxLen) (n:Int):Pu one 112 [.sl (ints l) f,ah n] (BB (hsV l n)):=by
 have el:((ints l).length:Int)=l.length:=by simp
 have hl':l.length≤maxLen:=hl
 simp only [maxLen] at hl'
 refine af.body (fn:=Tryz.f112) rfl rfl rfl rfl ?_
 refine aa (mu:=fun _=>false) ?_
 repeat' (first |refine u1 ?_ |refine u2 ?_ |fail)
 refine aC.bx (aj.to (l:=[(0,.sl (ints l) f),(1,ah n),(5,ah ((0:Nat):Int))]) (hp:=[]) 0 rfl ⟨rfl,rfl,rfl,trivial⟩ (Nat.zero_le _) rfl rfl) ?_
 refine aC.loop (fun k:Nat=>k≤l.length∧hsV (l.take k) n=false) (fun k=>⟨bM [(0,.sl (ints l) f),(1,ah n),(5,ah ((k:Nat):Int))],[],bw.none,false,0⟩) (fun k=>l.length - k) ?_ 0 ⟨Nat.zero_le _,rfl⟩
 rintro k ⟨hk,hno⟩
 by_cases hlt:k < l.length
 ·have dl:decide ((k:Int) < ((ints l).length:Int))=true:=decide_eq_true (by omega)
  have hat:(ints l)[((k:Nat):Int).toNat]?=some (eI l[k]):=bG hlt
  have ht:=hsV_take (List.getElem?_eq_getElem hlt) n
  rw [hno,Bool.false_or] at ht
  have hall:decide (l[k]=n)=true→hsV l n=true:=fun h=>by
   unfold hsV
   exact List.any_eq_true.2 ⟨l[k],List.getElem_mem hlt,h⟩
  generalize l[k]=z at *
  cases e:decide (z=n) with
  | true =>
   have hz:hsV l n=true:=hall e
   rw [hz]
   refine aa (mu:=fun _=>false) ?_
   repeat' (first |refine u1 ?_ |(refine ⟨[ah z],⟨by omega,hat⟩,rfl,?_⟩) |refine u2 ?_ |fail)
   exact ⟨[_],⟨Fz.deep rfl,trivial⟩,rfl⟩
  | false =>
   refine aa (mu:=fun _=>false) ?_
   repeat' (first |refine u1 ?_ |(refine ⟨[ah z],⟨by omega,hat⟩,rfl,?_⟩) |refine u2 ?_ |fail)
   exact ⟨k+1,⟨hlt,by rw [ht,e]⟩,(by dsimp only;omega),aj.to 0 rfl ⟨rfl,rfl,cK (by simp),trivial⟩ (Nat.zero_le _) rfl rfl⟩
 ·have dl:decide ((k:Int) < ((ints l).length:Int))=false:=decide_eq_false (by omega)
  have e:hsV l n=false:=by rw [List.take_of_length_le (by omega)] at hno;exact hno
  rw [e]
  refine aa (mu:=fun _=>false) ?_
  repeat' (first |refine u1 ?_ |refine u2 ?_ |fail)
  exact ⟨[_],⟨Fz.deep rfl,trivial⟩,rfl⟩
def bhI (w e t d n:Int):Int:=w+(t - n) * e * d - n * 1000 * d
def bhV (c:ay) (p:Pln) (i:Nat) (n:Int):Int:=bhI (uA c i) (eD c i) p.turns p.days n
theorem bh_b {w e t d n:Int} (he:0≤e∧e≤1000) (ht:1≤t∧t≤4) (hd:1≤d∧d≤60) (hn:0≤n∧n≤t) :
  (0≤(t - n) * e∧(t - n) * e≤4000)∧(0≤(t - n) * e * d∧(t - n) * e * d≤240000)∧(0≤n * 1000 * d∧n * 1000 * d≤240000)∧(-340000≤d * ((t - n) * e - n * 1000)∧d * ((t - n) * e - n * 1000)≤340000)∧w+d * ((t - n) * e - n * 1000)=bhI w e t d n:=by
 have h1:=B3 (dd:=t - n) (e:=e) (by omega) he
 have h0:(t - n) * e≤4000:=by omega
 have h2:=B3 (dd:=(t - n) * e) (e:=d) h1.1 ⟨by omega,by omega⟩
 have h3:=B3 (dd:=n * 1000) (e:=d) (by omega) ⟨by omega,by omega⟩
 have h4:d * ((t - n) * e - n * 1000)=(t - n) * e * d - n * 1000 * d:=by rw [Int.mul_comm,Int.sub_mul]
 have q2:(t - n) * e * d≤4000 * 60:=by
  calc (t - n) * e * d≤(t - n) * e * 60:=Int.mul_le_mul_of_nonneg_left hd.2 h1.1
   _≤4000 * 60:=by omega
 have q3:n * 1000 * d≤4000 * 60:=by
  calc n * 1000 * d≤n * 1000 * 60:=Int.mul_le_mul_of_nonneg_left hd.2 (by omega)
   _≤4000 * 60:=by omega
 unfold bhI
 rw [h4]
 generalize (t - n) * e * d=x at *
 generalize n * 1000 * d=y at *
 generalize (t - n) * e=z at *
 omega
theorem rank_of2 {c:ay} (hg:Good c) {k:Nat} (hlt:k < c.aG.length):∃ (mn:ByteArray) (rk w:Int) (ms:Bool) (ra:ByteArray) (rb rc rd e:Int),
  (c.aG.map bp)[((k:Nat):Int).toNat]?=some [ST mn,ah rk,ah w,BB ms]∧(c.aA.map bA)[rk.toNat]?=some [ST ra,ah rb,ah rc,ah rd,ah e]∧(0≤rk∧rk < c.aA.length)∧(0≤e∧e≤1000)∧(-100000≤w∧w≤100000)∧uA c k=w∧eD c k=e∧(c.aG[k]?).map nQ.iN=some rk:=by
 have hm:=hg.qT _ (List.getElem_mem hlt)
 have hrl:c.aG[k].iN.toNat < c.aA.length:=by omega
 have hr:=hg.iN _ (List.getElem_mem hrl)
 refine ⟨c.aG[k].name,c.aG[k].iN,c.aG[k].fm,c.aG[k].Dc,c.aA[c.aG[k].iN.toNat].name,c.aA[c.aG[k].iN.toNat].Gt,c.aA[c.aG[k].iN.toNat].leave,c.aA[c.aG[k].iN.toNat].Gu,c.aA[c.aG[k].iN.toNat].nx,bG hlt,?_,hm.1,hr.2.2.2,hm.2,?_,?_,?_⟩
 ·rw [List.getElem?_map,List.getElem?_eq_getElem hrl]
  rfl
 ·unfold uA
  rw [List.getElem?_eq_getElem hlt]
  rfl
 ·unfold eD tC
  rw [List.getElem?_eq_getElem hlt]
  show ((c.aA[c.aG[k].iN.toNat]?).map fL.nx).getD 0=_
  rw [List.getElem?_eq_getElem hrl]
  rfl
 ·rw [List.getElem?_eq_getElem hlt]
  rfl
theorem rbehind_c (one:Bool) (c:ay) (hg:Good c) (p:Pln) (hp:POk p) (i:Nat) (hi:i < c.aG.length) (n:Int) (hn:0≤n∧n≤p.turns):Pu one 90 [.ag (aF c),.ag (ePln p),ah (i:Int),ah n] (ah (bhV c p i n)):=by
 have em:((c.aG.map bp).length:Int)=c.aG.length:=by simp
 have eg:((c.aA.map bA).length:Int)=c.aA.length:=by simp
 obtain ⟨mn,rk,w,ms,ra,rb,rc,rd,e,hmt,hrt,hrk,hb1,hb2,h01,h02,_⟩:=rank_of2 hg (k:=i) hi
 unfold bhV
 rw [h01,h02]
 obtain ⟨t,d,aw⟩:=p
 obtain ⟨p1,p2,p3⟩:=hp
 dsimp only at *
 have hq:=bh_b (w:=w) hb1 p1 p2 hn
 have hbi:bhI w e t d n=w+(t - n) * e * d - n * 1000 * d:=rfl
 rw [hbi] at hq ⊢
 obtain ⟨q1,q2,q3,_,_⟩:=hq
 clear hbi
 show Pu one 90 [.ag (aF c),.ag [ah t,ah d,ah aw],ah (i:Int),ah n] _
 refine af.body (fn:=Tryz.f90) rfl rfl rfl rfl ?_
 refine aa (mu:=fun _=>false) ?_
 repeat' (first |refine u1 ?_ |(refine ⟨[ST mn,ah rk,ah w,BB ms],⟨by omega,hmt⟩,rfl,?_⟩) |(refine ⟨[ST ra,ah rb,ah rc,ah rd,ah e],⟨by omega,hrt⟩,rfl,?_⟩) |refine u2 ?_ |fail)
 exact ⟨[_],⟨Fz.deep rfl,trivial⟩,rfl⟩
end Go.Proofs.YtlpmfgmldmdggaaGreat
open Go Go.RM
namespace Go.Proofs.YtlpmfgmldmdggaaGreat
set_option maxRecDepth 100000
abbrev shPln:Sh:=.cons Fk (.cons Fk (.cons Fk .nil))
theorem tvPln {l:List AV} (h:TV shPln l):∃ p:Pln,l=ePln p:=by
 obtain ⟨_,_,h1,k1,rfl⟩:=Cv h
 obtain ⟨_,_,h2,k2,rfl⟩:=Cv k1
 obtain ⟨_,_,h3,k3,rfl⟩:=Cv k2
 obtain rfl:=K8 k3
 obtain ⟨a,_,rfl⟩:=Fv h1
 obtain ⟨b,_,rfl⟩:=Fv h2
 obtain ⟨d,_,rfl⟩:=Fv h3
 exact ⟨⟨a,b,d⟩,rfl⟩
end Go.Proofs.YtlpmfgmldmdggaaGreat
open Go Go.RM
namespace Go.Proofs.YtlpmfgmldmdggaaGreat
set_option maxRecDepth 100000
set_option maxHeartbeats 4000000
abbrev eRot (c:ay) (p:Pln) (m0 m1 m2:Nat):List AV:=[.sl (c.aA.map bA) false,.sl (c.aG.map bp) false,ah c.least,ah p.turns,ah p.days,ah p.away,ah (m0:Nat),ah (m1:Nat),ah (m2:Nat)]
def goneB (a m:Nat):Bool:=!decide ((m:Int)=0) && decide (((m &&& (18446744073709551615 - a):Nat):Int)=0)
def sprB (m0 m1 m2 a:Nat):Bool:=!(goneB a m0 || (goneB a m1 || goneB a m2))
theorem gone_c (one:Bool) (a m:Nat) (ha:a < 32) (hm:m < 32):af TT TB one (.fn 111 [] [.pt [ah (a:Nat)] 0]) [ah (m:Nat)] (BB (goneB a m)):=by
 unfold goneB
 cases e1:decide ((m:Int)=0) with
 | true =>
  have e2:(!decide ((m:Int)=0))=false:=by rw [e1];rfl
  refine af.body (fn:=Tryz.f111) rfl rfl rfl rfl ?_
  refine aa (mu:=fun _=>false) ?_
  repeat' (first |refine u1 ?_ |refine u2 ?_ |fail)
  exact ⟨[_],⟨Fz.deep rfl,trivial⟩,rfl⟩
 | false =>
  have e2:(!decide ((m:Int)=0))=true:=by rw [e1];rfl
  refine af.body (fn:=Tryz.f111) rfl rfl rfl rfl ?_
  refine aa (mu:=fun _=>false) ?_
  repeat' (first |refine u1 ?_ |((with_reducible show iQ _ _ _ _ _ _ _ _ _);refine RM.bandni (m:=m) (n:=a) rfl rfl (by omega) (by omega) ?_) |refine u2 ?_ |fail)
  exact ⟨[_],⟨Fz.deep rfl,trivial⟩,rfl⟩
theorem spared_c (one:Bool) (c:ay) (p:Pln) (m0 m1 m2 a:Nat) (h0:m0 < 32) (h1:m1 < 32) (h2:m2 < 32) (ha:a < 32):Pu one 79 [.ag (eRot c p m0 m1 m2),ah (a:Nat)] (BB (sprB m0 m1 m2 a)):=by
 have o1:=tA one 111 [] [.pt [ah (a:Nat)] 0] rfl (fun x=>goneB a x.toNat) [(m0:Int),(m1:Int),(m2:Int)] true (by simp [maxLen]) (fun x hx=>by
  rcases List.mem_cons.1 hx with rfl|hx
  ·exact gone_c one a m0 ha h0
  ·rcases List.mem_cons.1 hx with rfl|hx
   ·exact gone_c one a m1 ha h1
   ·rw [List.mem_singleton.1 hx]
    exact gone_c one a m2 ha h2)
 have e:([(m0:Int),(m1:Int),(m2:Int)].any fun x=>goneB a x.toNat)=(goneB a m0 || (goneB a m1 || goneB a m2)):=by
  simp only [List.any_cons,List.any_nil,Bool.or_false,Int.toNat_natCast]
 rw [e] at o1
 unfold sprB
 generalize (goneB a m0 || (goneB a m1 || goneB a m2))=b at *
 refine af.body (fn:=Tryz.f79) rfl rfl rfl rfl ?_
 refine aa (mu:=fun _=>false) ?_
 repeat' (first |(refine RM.sa0 (els:=ints [(m0:Int),(m1:Int),(m2:Int)]) rfl rfl (Nat.le_of_ble_eq_true rfl) (Nat.le_of_ble_eq_true rfl) ⟨rfl,(fun el hel=>by obtain ⟨x,_,rfl⟩:=List.mem_map.1 hel;rfl),rfl⟩ ?_) |((with_reducible show ai _ _ _ _ _ _ _ _);refine af.call o1 rfl rfl ?_) |refine u1 ?_ |refine u2 ?_ |fail)
 exact ⟨[_],⟨Fz.deep rfl,trivial⟩,rfl⟩
theorem behind_c (one:Bool) (c:ay) (hg:Good c) (p:Pln) (hp:POk p) (m0 m1 m2:Nat) (i:Nat) (hi:i < c.aG.length) (n:Int) (hn:0≤n∧n≤p.turns):Pu one 80 [.ag (eRot c p m0 m1 m2),ah (i:Int),ah n] (ah (bhV c p i n)):=by
 have em:((c.aG.map bp).length:Int)=c.aG.length:=by simp
 have eg:((c.aA.map bA).length:Int)=c.aA.length:=by simp
 obtain ⟨mn,rk,w,ms,ra,rb,rc,rd,e,hmt,hrt,hrk,hb1,hb2,h01,h02,_⟩:=rank_of2 hg (k:=i) hi
 unfold bhV
 rw [h01,h02]
 obtain ⟨t,d,aw⟩:=p
 obtain ⟨p1,p2,p3⟩:=hp
 dsimp only at *
 have hq:=bh_b (w:=w) hb1 p1 p2 hn
 obtain ⟨q1,q2,q3,q4,q5⟩:=hq
 have hbi:-440000≤bhI w e t d n∧bhI w e t d n≤600000:=by omega
 rw [←q5]
 show Pu one 80 [.ag [.sl (c.aA.map bA) false,.sl (c.aG.map bp) false,ah c.least,ah t,ah d,ah aw,ah (m0:Nat),ah (m1:Nat),ah (m2:Nat)],ah (i:Int),ah n] _
 refine af.body (fn:=Tryz.f80) rfl rfl rfl rfl ?_
 refine aa (mu:=fun _=>false) ?_
 repeat' (first |refine u1 ?_ |(refine ⟨[ST mn,ah rk,ah w,BB ms],⟨by omega,hmt⟩,rfl,?_⟩) |(refine ⟨[ST ra,ah rb,ah rc,ah rd,ah e],⟨by omega,hrt⟩,rfl,?_⟩) |refine u2 ?_ |fail)
 exact ⟨[_],⟨Fz.deep rfl,trivial⟩,rfl⟩
end Go.Proofs.YtlpmfgmldmdggaaGreat
