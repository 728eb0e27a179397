/-
  Contracts of the program's functions and of the document's. Lemmas alone; their conditions stand in them.
-/
import Derived.Test.YtpeogffeoehboaaGreatDoorK17
open Go Go.RM
namespace Go.Proofs.YtpeogffeoehboaaGreatDoor
set_option maxRecDepth 100000
set_option maxHeartbeats 4000000
theorem TJ {T:bJ} {fr:Nat→AV} {hp:List AB} {K:AV→List AB→Prop} {s x:Operand} {t u e:TypeId} {a1 a2 a3 a4 a5 a6} {els:List (List AV)} {f:Bool} {inf:rB} (hs:aN fr s=.sl [] true) (hx:aN fr x=.sl els f)
  (hu:T.ty.get u=some ⟨.slice e,a1,a2,a3,a4,a5,a6⟩) (hi:elem? T t=some inf) (hz:bD inf=true) (hel:∀ el ∈ els,el.length=inf.size) (h1:els.flatten.all AV.one=true) (hne:els ≠ [])
  (hb:els.length * inf.bytes≤140737488355328∧els.length≤9223372036854775807) (hk:K (.bg hp.length 0 0 els.length (els.length+1)) (hp++[.cells els.flatten inf.size 0])) :
  RM.wpOp T true (.call ⟨.builtin .append,[s,x].toArray,[t,u].toArray⟩) fr hp K:=by
 show force (aN fr s) fun a=>force (aN fr x) fun b=>gA T true .append [a,b] [t,u] hp K;rw [hs,hx];show (match T.ty.get u with|some ⟨.slice _,_,_,_,_,_,_⟩=>gk T true t (.sl [] true) (.sl els f) hp K|_=>False);rw [hu];show gk T true t (.sl [] true) (.sl els f) hp K;unfold gk;rw [hi];refine ⟨hz,els,⟨hel,rfl⟩,h1,(fun _ h=>by cases h),by simpa using hb,fun e=>absurd e hne,fun _=>?_⟩;simpa using hk
theorem Ms (one:Bool) {l:List Int} (full:Bool) (h:l ≠ []) (hl:l.length≤8) {Q:AV→List AB→bA→Prop} (hQ:Q (.bg 0 0 0 l.length (l.length+1)) [.cells (bG l) 1 0] bA.none):az TT TB one (.fn 32 [] []) [.sl (ints l) full] [] bA.none Q:=by
 have hb:(ints l).length * 8≤140737488355328∧(ints l).length≤9223372036854775807:=by rw [List.length_map];omega
 have e1:(ints l).length=l.length:=by simp
 refine az.body (fn:=Tryz.f32) rfl rfl rfl ?_;refine aa (mu:=fun t=>Nat.beq t 7) ?_;repeat' first|(refine RM.TU rfl (vn h) (by kernel_rfl) rfl ?_)|(refine TJ rfl rfl rfl rfl rfl (fun el hel=>by obtain ⟨x,_,rfl⟩:=List.mem_map.1 hel;rfl) (ki l).1 (vn h) hb ?_)|refine u1 ?_|refine u2 ?_|fail
 rw [←e1,←cK l] at hQ;exact hQ
theorem ox (fr:Tr Value) (d t:Nat) (v:Value):aF (cD fr (some d) v) (.tmp t)=if t=d then v else aF fr (.tmp t):=by show ((fr.set d v).get t).getD undef=_;rw [Tr.eY];split <;> rfl
theorem t23:∃ inf,elem? TT 23=some inf∧inf.size=1∧inf.bytes=8∧bD inf=true∧((inf.zero.map fun z=>z.cells.toList).getD [])=[.int .i64 0]:=⟨_,rfl,rfl,rfl,rfl,rfl⟩
theorem Rg:∃ e a b c d f g,TT.ty.get 23=some ⟨.slice e,a,b,c,d,f,g⟩:=⟨_,_,_,_,_,_,_,rfl⟩
abbrev VS (k o n c:Nat):Value:=.slice (some ⟨k,o,none⟩) n c
abbrev VI (n:Nat):Value:=.int .i64 (n:Int)
theorem SZ {k n i:Nat} (hi:i < n):dD TT 23 (VS k 0 n (n+1)) none (some (VI i))=some (VS k 0 i (n+3),.none):=by obtain ⟨inf,h1,h2,_⟩:=t23;show (iW TT 23 (VS k 0 n (n+1)) none (some (VI i))).map (fun v=>(v,bS.none))=_;unfold iW;simp only [h1,cN,qm,h2];rw [pK (qq5 i),pK (Nat.le_of_lt hi),Tr.beq_eq,Tr.beq_eq,decide_eq_false (by omega)];simp only [Bool.and_self,Bool.false_and,cond_false,Nat.zero_mul,Nat.add_zero,Nat.sub_zero];rw [show i+3+(n - i)=n+3 by omega];rfl
theorem S0 {k n j:Nat} (hj:j≤n):∃ c,dD TT 23 (VS k 0 n (n+1)) (some (VI j)) none=some (VS k j (n - j) c,.none):=by obtain ⟨inf,h1,h2,_⟩:=t23;refine ⟨n - j+2,?_⟩;show (iW TT 23 (VS k 0 n (n+1)) (some (VI j)) none).map (fun v=>(v,bS.none))=_;unfold iW;simp only [h1,cN,qm,h2];rw [pK hj,pK (qq6 n),Tr.beq_eq,Tr.beq_eq,decide_eq_true rfl,decide_eq_false (by omega)];simp only [Bool.and_self,Bool.and_false,cond_true,cond_false,Nat.mul_one,Nat.zero_add];rfl
theorem S1 {k n:Nat} (hn:1≤n):dD TT 23 (VS k 0 (n - 1) (n+3)) (some (VI (n - 1))) (some (VI n))=some (VS k (n - 1) 1 4,.none):=by obtain ⟨inf,h1,h2,_⟩:=t23;show (iW TT 23 (VS k 0 (n - 1) (n+3)) (some (VI (n - 1))) (some (VI n))).map (fun v=>(v,bS.none))=_;unfold iW;simp only [h1,cN,qm,h2];rw [pK (show n - 1≤n by omega),TD (show n - 1 < n by omega)];simp only [Bool.and_false,Bool.false_and,cond_false];unfold z8;dsimp only;rw [pK (show n - 1+1≤n by omega),pK (show n - 1+3≤n+3 by omega),pK (qq6 (n+3))];simp only [Bool.and_self,cond_true,Nat.mul_one,Nat.zero_add,Option.map_some];rw [show n - (n - 1)=1 by omega,show n+3 - 3 - n=0 by omega]
theorem TK {h:Nat} {g:aH} {k o n c:Nat}:dM TT h Builtin.len [VS k o n c] [23] g=some (VI n,.none):=by obtain ⟨ee,a,b,c',d,f,g',hs⟩:=Rg;show iY TT 23 (VS k o n c) g=_;unfold iY;simp only [hs]
theorem S2 {g:aH} {k o n c:Nat} {cs:List Value} (hg:g k=some (.cells cs true 1)) (h:o+n≤cs.length):bL g 1 (VS k o n c)=some ((cs.drop o).take n):=by unfold bL;simp only [hg,cells?,Nat.mul_one];exact nk h
theorem NR {H:Hp} {k n i c:Nat} {cs:List Value} (hg:H.get k=some (.cells cs true 1)) (hl:cs.length=n) (hi:i < n) (h8:n≤8) (hone:cs.all RM.bz=true):∃ e,dM TT H.n .append [VS k 0 i (n+3),VS k (i+1) (n - (i+1)) c] [23,23] H.get=some (VS k 0 (n - 1) (n+3),e) ∧
  (e=.none∧i+1=n∨e=.put k (.cells (RM.splice cs (cs.drop (i+1)) i) true 1)):=by
 obtain ⟨inf,h1,h2,h3,h4,h5⟩:=t23;obtain ⟨ee,a,b,c',d,f,g,hs⟩:=Rg;have r1:=S2 (o:=0) (n:=i) (c:=n+3) hg (by omega);have r2:=S2 (o:=i+1) (n:=n - (i+1)) (c:=c) hg (by omega);have ed:(cs.drop (i+1)).take (n - (i+1))=cs.drop (i+1):=List.take_of_length_le (by rw [List.length_drop];omega);rw [ed] at r2;have ho:(cs.drop (i+1)).all RM.bz=true:=List.all_eq_true.2 fun x hx=>List.all_eq_true.1 hone x (List.mem_of_mem_drop hx);have hb:dM TT H.n .append [VS k 0 i (n+3),VS k (i+1) (n - (i+1)) c] [23,23] H.get=(bif Nat.beq (n - (i+1)) 0 then some (VS k 0 i (n+3),bS.none) else gv H.n inf (some ⟨k,0,none⟩) i (n+3) (n - (i+1)) ((cs.drop 0).take i) (cs.drop (i+1)) H.get):=by show (match TT.ty.get 23 with|some ⟨.slice _,_,_,_,_,_,_⟩=>eX TT H.n 23 (VS k 0 i (n+3)) (VS k (i+1) (n - (i+1)) c) H.get|_=>none)=_;rw [hs];show eX TT H.n 23 (VS k 0 i (n+3)) (VS k (i+1) (n - (i+1)) c) H.get=_;unfold eX;simp only [h1,uS,h2,r1,r2,h3,ho,h4];rw [pK (show (i+(n - (i+1))) * 8≤140737488355328 by omega),pK (show i+(n - (i+1))≤9223372036854775807 by omega)];rfl
 rw [hb];by_cases hm:i+1=n
 ·rw [Tr.beq_eq,decide_eq_true (show n - (i+1)=0 by omega)];refine ⟨.none,?_,.inl ⟨rfl,hm⟩⟩;rw [show i=n - 1 by omega];rfl
 ·rw [Tr.beq_eq,decide_eq_false (show ¬ n - (i+1)=0 by omega)];refine ⟨_,?_,.inr rfl⟩;simp only [cond_false];unfold gv;rw [Tr.beq_eq,decide_eq_false (show ¬ n+3=i by omega),pK (show i+(n - (i+1))+3≤n+3 by omega)];simp only [cond_false,cond_true];unfold kq;simp only [hg,cells?,h2,Nat.mul_one,Nat.zero_add,Bool.true_and];rw [pK (show i+(n - (i+1))≤cs.length by omega),show i+(n - (i+1))=n - 1 by omega];rfl
theorem Rh {H:Hp} {k n:Nat} {cs:List Value} (hg:H.get k=some (.cells cs true 1)) (hl:cs.length=n) (hn:1≤n):dM TT H.n .clear [VS k (n - 1) 1 4] [23] H.get=some (.tuple #[],.put k (.cells (RM.splice cs [.int .i64 0] (n - 1)) true 1)):=by obtain ⟨inf,h1,h2,h3,h4,h5⟩:=t23;obtain ⟨ee,a,b,c',d,f,g,hs⟩:=Rg;show lU TT 23 (VS k (n - 1) 1 4) H.get=_;unfold lU;simp only [hs,h1,hg,cells?,h2,h4,h5,Nat.mul_one];rw [pK (show n - 1+1≤cs.length by omega)];rfl
theorem Ri {α:Type} {A R:α→Prop} {B:α→α→Prop} {P:α→Prop} (h1:∃ x,A x∧R x) (h2:∀ x,R x→∃ y,B x y∧P y):∃ x y,A x∧B x y∧P y:=by obtain ⟨x,a,r⟩:=h1;obtain ⟨y,b,p⟩:=h2 x r;exact ⟨x,y,a,b,p⟩
theorem DT {vs:List Value} {i n:Nat} (hl:vs.length=n) (hi:i < n):RM.splice (RM.splice vs (vs.drop (i+1)) i) [.int .i64 0] (n - 1)=vs.eraseIdx i++[.int .i64 0]:=by
 have e:vs.eraseIdx i=vs.take i++vs.drop (i+1):=by rw [List.eraseIdx_eq_take_drop_succ]
 have l1:(vs.take i++vs.drop (i+1)).length=n - 1:=by rw [List.length_append,List.length_take,List.length_drop];omega
 have l2:(RM.splice vs (vs.drop (i+1)) i).length=n:=by unfold RM.splice;rw [List.length_append,l1,List.length_drop,List.length_drop];omega
 have l3:(RM.splice vs (vs.drop (i+1)) i).take (n - 1)=vs.take i++vs.drop (i+1):=by unfold RM.splice;rw [List.take_append_of_le_length (by omega),List.take_of_length_le (by omega)]
 rw [e];generalize RM.splice vs (vs.drop (i+1)) i=S at l2 l3;unfold RM.splice;rw [l3,List.drop_eq_nil_of_le (show S.length≤n - 1+[Value.int .i64 0].length by rw [List.length_singleton];omega),List.append_nil]
theorem uQ {vs:List Value} {i n:Nat} (hl:vs.length=n) (hi:i+1=n):RM.splice vs (vs.drop (i+1)) i=vs:=by unfold RM.splice;rw [List.drop_eq_nil_of_le (show vs.length≤i+1 by omega),List.append_nil,List.length_nil,Nat.add_zero,List.take_append_drop]
def vals (l:List Int):List Value:=l.map fun x=>.int .i64 x
theorem uh (l:List Int):bG l=(vals l).map .fl:=by unfold vals bG;rw [List.map_map];rfl
theorem mL:∀ l:List Int,(vals l).all aV=true
 | []=>rfl
 | _ :: l=>mL l
theorem uj {a:List Value} (h:a.all aV=true) (n:Nat):(a.drop n).all aV=true:=List.all_eq_true.2 fun x hx=>List.all_eq_true.1 h x (List.mem_of_mem_drop hx)
theorem xN {a b:List Value} (ha:a.all aV=true) (hb:b.all aV=true) (i:Nat):(RM.splice a b i).all aV=true:=by unfold RM.splice;rw [List.all_append,List.all_append,hb,uj ha];have:(a.take i).all aV=true:=List.all_eq_true.2 fun x hx=>List.all_eq_true.1 ha x (List.mem_of_mem_take hx);rw [this];rfl
theorem S3 (one:Bool) {l:List Int} {i:Nat} (hi:i < l.length) (h8:l.length≤8) {Q:AV→List AB→bA→Prop} (hQ:Q (.bg 0 0 0 (l.length - 1) (l.length+3)) [.cells (bG (l.eraseIdx i)++[aC 0]) 1 0] bA.none) :
  az TT TB one (.fn 47 [] []) [.bg 0 0 0 l.length (l.length+1),aC (i:Nat),aC ((i+1:Nat):Int)] [.cells (bG l) 1 0] bA.none Q:=by
 have d1:decide (((i:Nat):Int)=((i+1:Nat):Int))=false:=decide_eq_false (by omega);refine az.body (fn:=Tryz.f47) rfl rfl rfl ?_;refine qq2 ?_;repeat' first|refine u1 ?_|refine u2 ?_|fail
 refine av.seq ?_;refine av.L5 (l1:=[_,_,_,_,_]) (l2:=[_]) (id1:=0) (id2:=0) rfl rfl ?_;refine qq2 ?_;repeat' first|refine u1 ?_|refine u2 ?_|fail
 refine av.Un rfl ?_;refine S9.TE rfl rfl rfl rfl rfl (by decide) ⟨Nat.le_succ _,hi,qq6 _⟩ (by omega) ?_;refine qq2 ?_;repeat' first|refine u1 ?_|refine u2 ?_|fail
 refine qq2 ?_;repeat' first|refine u1 ?_|refine u2 ?_|fail
 refine av.aJ (ah.to (l:=[(0,.bg 0 0 0 l.length (l.length+1)),(1,aC (i:Nat)),(2,aC ((i+1:Nat):Int)),(7,aC (l.length:Nat))]) (hp:=[.cells (bG l) 1 0]) 1 rfl ⟨rfl,rfl,rfl,rfl,trivial⟩ (Nat.le_of_ble_eq_true rfl) rfl (dK _ _)) ?_;refine av.TF (st2:=⟨aZ [(0,.bg 0 0 0 (l.length - 1) (l.length+3))],[.cells (bG (l.eraseIdx i)++[aC 0]) 1 0],bA.none,false,1⟩) rfl (fun E base s hs=>?_) ?_
 rotate_left
 ·refine qq1 ?_;repeat' first|refine u1 ?_|refine u2 ?_|fail
  exact hQ
 have a0:AR E.ρ s.hp.get (E.O [.cells (bG l) 1 0]) (.bg 0 0 0 l.length (l.length+1)) (aF s.fr (.tmp 0)):=hs.fr 0;have e1:aF s.fr (.tmp 1)=VI i:=(hs.fr 1).dW.1;have e2:aF s.fr (.tmp 2)=VI (i+1):=(hs.fr 2).dW.1;have e7:aF s.fr (.tmp 7)=VI l.length:=(hs.fr 7).dW.1
 rcases a0.fI with ⟨k,hk,e0⟩|⟨_,h0,_⟩
 rotate_left
 ·omega
 obtain ⟨cs',q1,q2⟩:=hs.h.cells (j:=0) (aA:=0) rfl hk;rw [uh] at q2;obtain ⟨rfl,_⟩:=q2.dW;have hvl:(vals l).length=l.length:=by simp [vals]
 have hone:(vals l).all RM.bz=true:=by unfold vals;rw [List.all_map,List.all_eq_true];intro x _;rfl
 obtain ⟨c,hcut⟩:=S0 (k:=k) (n:=l.length) (j:=i+1) hi;obtain ⟨e,ha,he⟩:=NR (c:=c) q1 hvl hi h8 hone;refine ⟨0,Ri (R:=fun s1=>aF s1.fr (.tmp 0)=VS k 0 (l.length - 1) (l.length+3)∧aF s1.fr (.tmp 7)=VI l.length∧s1.hp=s.hp.app e∧s1.rd=s.rd) ?_ ?_⟩
 ·refine ⟨?w1,FB (s':=?w1) (n:=8) ?p1 rfl rfl rfl rfl ?r1,?z1⟩
  case r1 =>refine cg (v:=VS k 0 l.length (l.length+1)) (e:=.none) rfl (by show some (aF s.fr (.tmp 0),bS.none)=_;rw [e0]) ?_;refine cg (v:=VI i) (e:=.none) rfl (by show some (aF _ (.tmp 1),bS.none)=_;simp [ox,e1]) ?_;refine cg (v:=VS k 0 i (l.length+3)) (e:=.none) rfl (by show dD TT 23 (aF _ (.tmp 20)) none (some (aF _ (.tmp 21)))=_;simp only [ox];exact SZ hi) ?_;refine cg (v:=VS k 0 l.length (l.length+1)) (e:=.none) rfl (by show some (aF _ (.tmp 0),bS.none)=_;simp [ox,e0]) ?_;refine cg (v:=VI (i+1)) (e:=.none) rfl (by show some (aF _ (.tmp 2),bS.none)=_;simp [ox,e2]) ?_;refine cg (v:=VS k (i+1) (l.length - (i+1)) c) (e:=.none) rfl (by show dD TT 23 (aF _ (.tmp 23)) (some (aF _ (.tmp 24))) none=_;simp only [ox];exact hcut) ?_;refine cg (v:=VS k 0 (l.length - 1) (l.length+3)) (e:=e) rfl (by show dM TT _ .append [aF _ (.tmp 22),aF _ (.tmp 25)] [23,23] _=_;simp only [ox];exact ha) ?_;refine cg (v:=VS k 0 (l.length - 1) (l.length+3)) (e:=.none) rfl (by show some (aF _ (.tmp 26),bS.none)=_;simp [ox]) ?_;exact dF _ _
  case p1=>exact ⟨⟨rfl,rfl,fun _=>rfl⟩,⟨rfl,rfl,fun _=>rfl⟩,⟨rfl,rfl,fun _=>rfl⟩,⟨rfl,rfl,fun _=>rfl⟩,⟨rfl,rfl,fun _=>rfl⟩,⟨rfl,rfl,fun _=>rfl⟩,⟨rfl,rfl,fun _=>rfl⟩,⟨rfl,rfl,fun _=>rfl⟩,trivial⟩
  case z1 =>refine ⟨by simp only [ox];rfl,by simp only [ox];simp [e7],rfl,rfl⟩
 ·rintro s1 ⟨f0,f7,f1,f2⟩
  have g1:(s.hp.app e).get k=some (.cells (RM.splice (vals l) ((vals l).drop (i+1)) i) true 1):=by
   rcases he with ⟨rfl,he⟩|rfl
   ·rw [uQ hvl he];exact q1
   ·exact gz
  have gl:(RM.splice (vals l) ((vals l).drop (i+1)) i).length=l.length:=by unfold RM.splice;simp only [List.length_append,List.length_take,List.length_drop];omega
  have hclr:=Rh g1 gl (by omega);refine ⟨?w2,H9 (s':=?w2) ?r2,E,?z2⟩
  case r2 =>refine cg (v:=VS k 0 (l.length - 1) (l.length+3)) (e:=.none) rfl (by show some (aF s1.fr (.tmp 0),bS.none)=_;rw [f0]) ?_;refine cg (v:=VS k 0 (l.length - 1) (l.length+3)) (e:=.none) rfl (by show some (aF _ (.tmp 0),bS.none)=_;simp [ox,f0]) ?_;refine cg (v:=VI (l.length - 1)) (e:=.none) rfl (by show dM TT 0 Builtin.len [aF _ (.tmp 28)] [23] s1.hp.get=_;rw [ox,if_pos rfl];exact TK) ?_;refine cg (v:=VI l.length) (e:=.none) rfl (by show some (aF _ (.tmp 7),bS.none)=_;simp [ox,f7]) ?_;refine cg (v:=VS k (l.length - 1) 1 4) (e:=.none) rfl (by show dD TT 23 (aF _ (.tmp 27)) (some (aF _ (.tmp 29))) (some (aF _ (.tmp 30)))=_;simp only [ox];exact S1 (by omega)) ?_;refine cg (e:=.put k (.cells (RM.splice (RM.splice (vals l) ((vals l).drop (i+1)) i) [.int .i64 0] (l.length - 1)) true 1)) rfl (by show dM TT s1.hp.n .clear [aF _ (.tmp 31)] [23] s1.hp.get=_;rw [ox,if_pos rfl,f1];exact hclr) ?_;exact dF _ _
  case z2 =>
   have step1:aR E base [.cells ((RM.splice (vals l) ((vals l).drop (i+1)) i).map .fl) 1 0] bA.none (s.hp.app e)∧Ext base E [.cells (bG l) 1 0] s.hp E [.cells ((RM.splice (vals l) ((vals l).drop (i+1)) i).map .fl) 1 0] (s.hp.app e):=by
    rcases he with ⟨rfl,he⟩|rfl
    ·rw [uQ hvl he,←uh];exact ⟨hs.h,.refl⟩
    ·refine hs.h.put (j:=0) (aA:=0) (a:=.cells ((RM.splice (vals l) ((vals l).drop (i+1)) i).map .fl) 1 0) rfl rfl rfl hk ⟨_,rfl,fP.tG (xN (mL l) (uj (mL l) _) _)⟩
   have hk2:=step1.2.BK 0 0 k hk;have step2:=step1.1.put (j:=0) (aA:=0) (a:=.cells ((RM.splice (RM.splice (vals l) ((vals l).drop (i+1)) i) [.int .i64 0] (l.length - 1)).map .fl) 1 0) (b:=.cells (RM.splice (RM.splice (vals l) ((vals l).drop (i+1)) i) [.int .i64 0] (l.length - 1)) true 1) rfl rfl rfl hk ⟨_,rfl,fP.tG (xN (xN (mL l) (uj (mL l) _) _) rfl _)⟩;have he6:(RM.splice (RM.splice (vals l) ((vals l).drop (i+1)) i) [.int .i64 0] (l.length - 1)).map AV.fl=bG (l.eraseIdx i)++[aC 0]:=by rw [DT hvl hi,List.map_append,uh];unfold vals;rw [List.eraseIdx_eq_take_drop_succ,List.eraseIdx_eq_take_drop_succ];simp only [List.map_append,List.map_take,List.map_drop];rfl
   have hx:Ext base E [.cells (bG l) 1 0] s.hp E [.cells (bG (l.eraseIdx i)++[aC 0]) 1 0] ((s.hp.app e).put k (.cells (RM.splice (RM.splice (vals l) ((vals l).drop (i+1)) i) [.int .i64 0] (l.length - 1)) true 1)):=by rw [←he6];exact step1.2.trans step2.2
   have hr:aR E base [.cells (bG (l.eraseIdx i)++[aC 0]) 1 0] bA.none ((s.hp.app e).put k (.cells (RM.splice (RM.splice (vals l) ((vals l).drop (i+1)) i) [.int .i64 0] (l.length - 1)) true 1)):=by rw [←he6];exact step2.1
   rw [←f1] at hx hr;refine ⟨⟨hr,f2.trans hs.rd,fun t=>?_⟩,hx.fS⟩;show AR _ _ _ (bif Nat.beq t 0 then _ else AV.bX) _;rw [Tr.beq_eq];by_cases ht:t=0
   ·subst ht;rw [decide_eq_true rfl];have:aF s1.fr (.tmp 0)=VS k 0 (l.length - 1) (l.length+3):=f0;show AR _ _ _ (.bg 0 0 0 (l.length - 1) (l.length+3)) (aF (cD (cD (cD (cD (cD s1.fr (some 27) _) (some 28) _) (some 29) _) (some 30) _) (some 31) _) (.tmp 0));simp only [ox];show AR _ _ _ _ (aF s1.fr (.tmp 0));rw [this];exact .bg hk
   ·rw [decide_eq_false ht];exact .bX
theorem S4 (one:Bool) {s:ai} (hg:Good s) {days:List Int} (h6:days.length≤6) (hdp:days.Pairwise (· < ·)) (hdr:∀ x ∈ days,0≤x∧x < s.days):Pu one 44 [.ag (ay s),.sl (ints days) false] (.tp [.sl (((gO s days).getD []).map aD) false,BB (gO s days).isSome]):=by
 have hc:=fun (Q:AV→List AB→bA→Prop) (hQ:Q (TA (gO s days)) (TC (gO s days)) bA.none)=>Pe one hg (days:=days) false h6 hdp hdr (aE:=bA.none) (Q:=Q) hQ
 cases hf:gO s days with
 | none =>rw [hf] at hc;exact aj.Rj rfl (hc _ ⟨rfl,rfl⟩) ⟨Fz.nil,Fz.deep rfl,trivial⟩
 | some p =>
  rw [hf] at hc
  cases p with
  | nil=>exact aj.Rj rfl (hc _ ⟨rfl,rfl⟩) ⟨Fz.nil,Fz.deep rfl,trivial⟩
  | cons a l=>exact aj.Rj rfl (hc _ ⟨rfl,rfl⟩) ⟨Fz.row (es:=2) rfl (jX _).1 (jX _).2.1 (jX _).2.2.1 (jX _).2.2.2 (mJ _) (fun h=>Bool.noConfusion h),Fz.deep rfl,trivial⟩
theorem Mt {l:List Int} {i:Nat} (full:Bool) (hi:i < l.length) (h8:l.length≤8):DL TT TB (.fn 32 [] []) [.sl (ints l) full] (.fn 47 [] []) [aC (i:Nat),aC ((i+1:Nat):Int)] (.sl (ints (l.eraseIdx i)) false):=by
 have hne:l ≠ []:=fun h=>by rw [h] at hi;simp at hi
 have hle:(l.eraseIdx i).length=l.length - 1:=List.length_eraseIdx_of_lt hi;have hln:(bG (l.eraseIdx i)).length=l.length - 1:=by rw [List.length_map,hle]
 refine DL.of rfl (Ms true full hne h8 ⟨rfl,rfl,rfl⟩) (S3 true hi h8 (Fz.row (es:=1) rfl ?_ ?_ (fun el hel=>by obtain ⟨x,_,rfl⟩:=List.mem_map.1 hel;rfl) ?_ ?_ (fun h=>Bool.noConfusion h)))
 ·rw [List.length_append,hln];simp only [List.length_singleton];omega
 ·rw [List.length_map,hle]
 ·rw [cK,List.drop_zero,Nat.mul_one,List.take_append_of_le_length (by rw [hln];exact qq6 _),List.take_of_length_le (by rw [hln];exact qq6 _)]
 ·rw [cK];exact fu _
theorem NS {P:Program} {t:TypeId} {x y:Operand} {k:Nat} (hk:k < 1000):fV P .add t x y (.int .i64 (k:Int)) (.int .i64 1)=some (.int .i64 ((k+1:Nat):Int),.none):=by
 have:iy .add (k:Int) 1=some (.int .i64 ((k:Int)+1)):=by unfold iy mO;simp only;rw [show Int.add (k:Int) 1=(k:Int)+1 from rfl,sv (by omega)];rfl
 unfold fV;simp only [this];rfl
def ew (s:ai) (k:Nat):List Int:=((List.range k).filter fun i=>(gO s (s.possible.eraseIdx i)).isNone).map fun i=>s.possible.getD i 0
theorem xO {s:ai} {k:Nat} (h:k < s.possible.length):ew s (k+1)=ew s k++if (gO s (s.possible.eraseIdx k)).isNone=true then [s.possible[k]] else []:=by
 unfold ew;rw [List.range_succ,List.filter_append,List.map_append];have hd:s.possible.getD k 0=s.possible[k]:=fT h
 cases hf:(gO s (s.possible.eraseIdx k)).isNone with
 | true =>rw [if_pos rfl,←hd];simp [hf]
 | false=>simp [hf]
theorem uo (s:ai) (k:Nat):(ew s k).length≤k:=by unfold ew;rw [List.length_map];exact Nat.le_trans (List.length_filter_le _ _) (by simp)
def uR (s:ai):List Int:=if oz s=0 then ew s s.possible.length else []
theorem DU {l:List Int} {i:Nat} {d:Int} (hp:l.Pairwise (· < ·)) (hr:∀ x ∈ l,0≤x∧x < d):(l.eraseIdx i).Pairwise (· < ·)∧∀ x ∈ l.eraseIdx i,0≤x∧x < d:=by have hs:(l.eraseIdx i).Sublist l:=List.eraseIdx_sublist l i;exact ⟨hp.sublist hs,fun x hx=>hr x (hs.subset hx)⟩
theorem Rk (one:Bool) (s:ai) (hs:s.Ok):Pu one 18 [.ag (ay s)] (.tp [.sl (ints (uR s)) false,aC (oz s)]):=by
 have o1:=DK one s hs;unfold uR;by_cases c1:oz s=0
 ·rw [if_pos c1];rw [c1] at o1 ⊢
  have c2:(l8 s).2.2=0:=by
   unfold oz at c1;by_cases h:(l8 s).2.2=0
   ·exact h
   ·rw [if_neg h] at c1;exact absurd c1 h
  have hg:=qX c2;have hm:=hg.many;obtain ⟨p1,p2⟩:=sP hg;have hdp:s.possible.Pairwise (· < ·):=List.pairwise_iff_getElem.2 fun i j hi hj hij=>p2 i j hi hj hij;have hdr:∀ x ∈ s.possible,0≤x∧x < s.days:=fun x hx=>by obtain ⟨i,hi,rfl⟩:=List.mem_iff_getElem.1 hx;exact p1 i hi
  clear p1 p2;have d0:(!decide ((0:Int)=0))=false:=by decide
  have ep:((ints s.possible).length:Int)=s.possible.length:=by simp
  refine aj.body (fn:=Tryz.f18) rfl rfl rfl rfl ?_;refine qq2 ?_;repeat' first|refine u1 ?_|refine u2 ?_|fail
  refine qq2 ?_;repeat' first|((with_reducible refine qq3 ?_);refine aj.call o1 rfl rfl ?_)|refine u1 ?_|refine u2 ?_|fail
  refine av.seq ?_;refine qq2 ?_;repeat' first|refine u1 ?_|refine u2 ?_|fail
  refine av.block ?_;refine av.aJ (ah.trans (ah.jl 1) (ah.Gi (l:=[(1,.pt (ay s) 0),(2,.bg 0 0 0 (ew s 0).length 0),(17,.sl (ints s.possible) false),(18,aC ((ints s.possible).length:Nat)),(19,aC (0:Nat))]) (hp:=[.cells (bG (ew s 0)) 1 0]) 1 rfl ⟨aW.refl _,aW.jk,aW.refl _,aW.refl _,aW.refl _,trivial⟩ (qq5 _) rfl (dK _ _))) ?_;refine av.loop (fun x:Nat × Nat × Nat=>x.1≤s.possible.length∧(x.2.2=(ew s x.1).length∨x.2.2=(ew s x.1).length+1)) (fun x=>⟨aZ [(1,.pt (ay s) 0),(2,.bg 0 x.2.1 0 (ew s x.1).length x.2.2),(17,.sl (ints s.possible) false),(18,aC ((ints s.possible).length:Nat)),(19,aC (x.1:Nat))],[.cells (bG (ew s x.1)) 1 x.2.1],bA.none,false,0⟩) (fun x=>s.possible.length - x.1) ?_ (0,0,0) ⟨qq5 _,.inl rfl⟩;rintro ⟨k,aA,c⟩ ⟨hk,hcap⟩;dsimp only at hk hcap;show av _ _ _ _ ⟨aZ [(1,.pt (ay s) 0),(2,.bg 0 aA 0 (ew s k).length c),(17,.sl (ints s.possible) false),(18,aC ((ints s.possible).length:Nat)),(19,aC (k:Nat))],[.cells (bG (ew s k)) 1 aA],bA.none,false,0⟩ _;have hml:=uo s k;by_cases hlt:k < s.possible.length
  ·have d1:decide ((k:Int) < ((ints s.possible).length:Int))=true:=decide_eq_true (by omega);have hs1:=xO hlt;have hat:(ints s.possible)[((k:Nat):Int).toNat]?=some (eI s.possible[k]):=bp hlt;obtain ⟨ep1,ep2⟩:=DU (i:=k) hdp hdr;have e6:(s.possible.eraseIdx k).length≤6:=Nat.le_trans (List.length_eraseIdx_le _ _) (by omega);have of:=S4 true hg e6 ep1 ep2;have os:=Mt false hlt (by omega);have hgl:(bG (ew s k)).length=(ew s k).length:=by rw [List.length_map]
   generalize s.possible[k]=z at *
   generalize hR:gO s (s.possible.eraseIdx k)=R at *
   refine qq2 ?_;repeat' first|refine u1 ?_|refine u2 ?_|fail
   refine qq2 ?_;repeat' first|refine u1 ?_|refine u2 ?_|fail
   refine av.seq ?_;refine av.block ?_;refine qq2 ?_;repeat' first|refine u1 ?_|refine u2 ?_|fail
   refine av.seq ?_;refine av.pair (mu:=fun _=>false) (n:=15) (A:=[_,_,_,_]) (ms:=[_,_,_]) (B:=[_,_,_,_,_,_]) (by kernel_rfl) rfl rfl ?_;repeat' first|refine RM.TI ?_|refine RM.TH ?_|refine u1 ?_|refine u2 ?_|fail
   refine ⟨_,_,29,_,_,rfl,rfl,rfl,rfl,rfl,rfl,rfl,rfl,?_⟩;refine ⟨rfl,rfl,(fun _=>rfl),.int .i64 (k:Nat),rfl,(fun ρ hρ n g=>by show some (ρ (.tmp 4),bS.none)=_;rw [hρ (.tmp 4) _ rfl]),?_⟩;refine ⟨rfl,rfl,(fun _=>rfl),.int .i64 (k:Nat),rfl,(fun ρ hρ n g=>by show some (ρ (.tmp 4),bS.none)=_;rw [hρ (.tmp 4) _ rfl]),?_⟩;refine ⟨rfl,rfl,(fun _=>rfl),.int .i64 ((k+1:Nat):Int),rfl,(fun ρ hρ n g=>by show fV TT.P .add 3 _ _ (ρ (.tmp 31)) (ρ (.const (.int .i64 1)))=_;rw [hρ (.tmp 31) _ rfl,hρ (.const _) _ rfl];exact NS (by omega)),?_⟩;refine ⟨rfl,rfl,_,os,?_⟩;repeat' first|refine RM.TI ?_|refine RM.TH ?_|(refine ⟨_,of,?_⟩)|refine u1 ?_|refine u2 ?_|fail
   cases R with
   | some q =>
    rw [if_neg (by simp)] at hs1;refine qq1 ?_;repeat' first|refine u1 ?_|refine u2 ?_|fail
    refine qq1 ?_;repeat' first|refine u1 ?_|refine u2 ?_|fail
    exact ⟨(k+1,aA,c),⟨hlt,by dsimp only;rw [hs1,List.append_nil];exact hcap⟩,(by dsimp only;omega),ah.to 1 (by dsimp only;rw [hs1,List.append_nil];rfl) ⟨rfl,(by dsimp only;rw [hs1,List.append_nil];rfl),rfl,rfl,bq (by simp),trivial⟩ (qq5 _) rfl (dK _ _)⟩
   | none =>
    rw [if_pos (show (none:Option (List Order)).isNone=true from rfl)] at hs1;refine qq1 ?_;repeat' first|((with_reducible show RM.wpOp _ _ (.call _) _ _ _);refine RM.l5 (cs:=bG (ew s k)) (n:=(ew s k).length) (els:=[eI z]) rfl rfl rfl rfl rfl (fun el hel=>by rw [List.mem_singleton.1 hel];rfl) rfl rfl (by rw [hgl];exact (Nat.mul_one _).symm) hcap (by simp only [List.length_singleton];omega) (fun v' c' hc'=>?_))|refine u1 ?_|refine u2 ?_|fail
    refine qq1 ?_;repeat' first|refine u1 ?_|refine u2 ?_|fail
    exact ⟨(k+1,v',c'),⟨hlt,by dsimp only;rw [hs1,List.length_append];exact hc'⟩,(by dsimp only;omega),ah.to 1 (by dsimp only;rw [hs1];unfold bG;rw [List.map_append];rfl) ⟨rfl,(by dsimp only;rw [hs1,List.length_append];rfl),rfl,rfl,bq (by simp),trivial⟩ (qq5 _) rfl (dK _ _)⟩
  ·obtain rfl:k=s.possible.length:=by omega
   have d1:decide ((s.possible.length:Int) < ((ints s.possible).length:Int))=false:=decide_eq_false (by omega);refine qq1 ?_;repeat' first|refine u1 ?_|refine u2 ?_|fail
   refine qq1 ?_;repeat' first|refine u1 ?_|refine u2 ?_|fail
   exact ⟨[_,_],⟨Fz.row (es:=1) rfl (by rw [List.length_map];omega) (by rw [List.length_map]) (fun el hel=>by obtain ⟨x,_,rfl⟩:=List.mem_map.1 hel;rfl) (by rw [cK,List.drop_zero,List.take_of_length_le (by rw [List.length_map];omega)]) (by rw [cK];exact fu _) (fun h=>Bool.noConfusion h),Fz.deep rfl,trivial⟩,rfl⟩
 ·rw [if_neg c1];have d0:(!decide (oz s=0))=true:=by rw [decide_eq_false c1];rfl
  refine aj.body (fn:=Tryz.f18) rfl rfl rfl rfl ?_;refine qq1 ?_;repeat' first|((with_reducible refine qq3 ?_);refine aj.call o1 rfl rfl ?_)|refine u1 ?_|refine u2 ?_|fail
  exact ⟨[_,_],⟨Fz.nil,Fz.deep rfl,trivial⟩,rfl⟩
