/-
  Contracts of the program's functions and of the document's. Lemmas alone; their conditions stand in them.
-/
import Derived.Test.YtpeogffeoehboaaDoorK14
open Go Go.RM
namespace Go.Proofs.YtpeogffeoehboaaDoor
set_option maxRecDepth 100000
set_option maxHeartbeats 4000000
theorem SA {T:bz} {fr:Nat→AV} {hp:List AB} {K:AV→List AB→Prop} {s x:Operand} {t u e:TypeId} {a1 a2 a3 a4 a5 a6} {els:List (List AV)} {f:Bool} {inf:rM} (hs:aN fr s=.sl [] true) (hx:aN fr x=.sl els f)
  (hu:T.ty.get u=some ⟨.slice e,a1,a2,a3,a4,a5,a6⟩) (hi:elem? T t=some inf) (hz:bl inf=true) (hel:∀ el ∈ els,el.length=inf.size) (h1:els.flatten.all AV.one=true) (hne:els ≠ [])
  (hb:els.length * inf.bytes≤140737488355328∧els.length≤9223372036854775807) (hk:K (.bI hp.length 0 0 els.length (els.length+1)) (hp++[.cells els.flatten inf.size 0])) :
  RM.wpOp T true (.call ⟨.builtin .append,[s,x].toArray,[t,u].toArray⟩) fr hp K:=by
 show force (aN fr s) fun a=>force (aN fr x) fun b=>gh T true .append [a,b] [t,u] hp K
 rw [hs,hx]
 show (match T.ty.get u with|some ⟨.slice _,_,_,_,_,_,_⟩=>fP T true t (.sl [] true) (.sl els f) hp K|_=>False)
 rw [hu]
 show fP T true t (.sl [] true) (.sl els f) hp K
 unfold fP
 rw [hi]
 refine ⟨hz,els,⟨hel,rfl⟩,h1,(fun _ h=>by cases h),by simpa using hb,fun e=>absurd e hne,fun _=>?_⟩
 simpa using hk
theorem KY (one:Bool) {l:List Int} (full:Bool) (h:l ≠ []) (hl:l.length≤8) {Q:AV→List AB→bG→Prop} (hQ:Q (.bI 0 0 0 l.length (l.length+1)) [.cells (dw l) 1 0] bG.none):av TT TB one (.fn 51 [] []) [.sl (ints l) full] [] bG.none Q:=by
 have hb:(ints l).length * 8≤140737488355328∧(ints l).length≤9223372036854775807:=by
  rw [List.length_map]
  omega
 have e1:(ints l).length=l.length:=by simp
 refine av.body (fn:=Tryd.f51) rfl rfl rfl ?_
 refine aa (mu:=fun t=>Nat.beq t 7) ?_
 repeat' (first |(refine RM.SI rfl (ug h) (by kernel_rfl) rfl ?_) |(refine SA rfl rfl rfl rfl rfl (fun el hel=>by obtain ⟨x,_,rfl⟩:=List.mem_map.1 hel;rfl) (oM l).1 (ug h) hb ?_) |refine u1 ?_ |refine u2 ?_ |fail)
 rw [←e1,←eV l] at hQ
 exact hQ
theorem nj (fr:Tr Value) (d t:Nat) (v:Value):aG (cu fr (some d) v) (.tmp t)=if t=d then v else aG fr (.tmp t):=by
 show ((fr.set d v).get t).getD undef=_
 rw [Tr.eE]
 split <;> rfl
theorem t23:∃ inf,elem? TT 23=some inf∧inf.size=1∧inf.bytes=8∧bl inf=true∧((inf.zero.map fun z=>z.cells.toList).getD [])=[.int .i64 0]:=⟨_,rfl,rfl,rfl,rfl,rfl⟩
theorem P6:∃ e a b c d f g,TT.ty.get 23=some ⟨.slice e,a,b,c,d,f,g⟩:=⟨_,_,_,_,_,_,_,rfl⟩
abbrev VS (k o n c:Nat):Value:=.slice (some ⟨k,o,none⟩) n c
abbrev VI (n:Nat):Value:=.int .i64 (n:Int)
theorem RP {k n i:Nat} (hi:i < n):dh TT 23 (VS k 0 n (n+1)) none (some (VI i))=some (VS k 0 i (n+3),.none):=by
 obtain ⟨inf,h1,h2,_⟩:=t23
 show (ir TT 23 (VS k 0 n (n+1)) none (some (VI i))).map (fun v=>(v,bL.none))=_
 unfold ir
 simp only [h1,cB,oU,h2]
 rw [nZ (Nat.zero_le i),nZ (Nat.le_of_lt hi),Tr.beq_eq,Tr.beq_eq,decide_eq_false (by omega)]
 simp only [Bool.and_self,Bool.false_and,cond_false,Nat.zero_mul,Nat.add_zero,Nat.sub_zero]
 rw [show i+3+(n - i)=n+3 by omega]
 rfl
theorem RQ {k n j:Nat} (hj:j≤n):∃ c,dh TT 23 (VS k 0 n (n+1)) (some (VI j)) none=some (VS k j (n - j) c,.none):=by
 obtain ⟨inf,h1,h2,_⟩:=t23
 refine ⟨n - j+2,?_⟩
 show (ir TT 23 (VS k 0 n (n+1)) (some (VI j)) none).map (fun v=>(v,bL.none))=_
 unfold ir
 simp only [h1,cB,oU,h2]
 rw [nZ hj,nZ (Nat.le_refl n),Tr.beq_eq,Tr.beq_eq,decide_eq_true rfl,decide_eq_false (by omega)]
 simp only [Bool.and_self,Bool.and_false,cond_true,cond_false,Nat.mul_one,Nat.zero_add]
 rfl
theorem RR {k n:Nat} (hn:1≤n):dh TT 23 (VS k 0 (n - 1) (n+3)) (some (VI (n - 1))) (some (VI n))=some (VS k (n - 1) 1 4,.none):=by
 obtain ⟨inf,h1,h2,_⟩:=t23
 show (ir TT 23 (VS k 0 (n - 1) (n+3)) (some (VI (n - 1))) (some (VI n))).map (fun v=>(v,bL.none))=_
 unfold ir
 simp only [h1,cB,oU,h2]
 rw [nZ (show n - 1≤n by omega),Sw (show n - 1 < n by omega)]
 simp only [Bool.and_false,Bool.false_and,cond_false]
 unfold yT
 dsimp only
 rw [nZ (show n - 1+1≤n by omega),nZ (show n - 1+3≤n+3 by omega),nZ (Nat.le_refl (n+3))]
 simp only [Bool.and_self,cond_true,Nat.mul_one,Nat.zero_add,Option.map_some]
 rw [show n - (n - 1)=1 by omega,show n+3 - 3 - n=0 by omega]
theorem SB {h:Nat} {g:aH} {k o n c:Nat}:dA TT h Builtin.len [VS k o n c] [23] g=some (VI n,.none):=by
 obtain ⟨ee,a,b,c',d,f,g',hs⟩:=P6
 show iw TT 23 (VS k o n c) g=_
 unfold iw
 simp only [hs]
theorem RS {g:aH} {k o n c:Nat} {cs:List Value} (hg:g k=some (.cells cs true 1)) (h:o+n≤cs.length):bA g 1 (VS k o n c)=some ((cs.drop o).take n):=by
 unfold bA
 simp only [hg,cells?,Nat.mul_one]
 exact mh h
theorem Mn {H:Hp} {k n i c:Nat} {cs:List Value} (hg:H.get k=some (.cells cs true 1)) (hl:cs.length=n) (hi:i < n) (h8:n≤8) (hone:cs.all RM.bk=true):∃ e,dA TT H.n .append [VS k 0 i (n+3),VS k (i+1) (n - (i+1)) c] [23,23] H.get=some (VS k 0 (n - 1) (n+3),e) ∧
  (e=.none∧i+1=n∨e=.put k (.cells (RM.splice cs (cs.drop (i+1)) i) true 1)):=by
 obtain ⟨inf,h1,h2,h3,h4,h5⟩:=t23
 obtain ⟨ee,a,b,c',d,f,g,hs⟩:=P6
 have r1:=RS (o:=0) (n:=i) (c:=n+3) hg (by omega)
 have r2:=RS (o:=i+1) (n:=n - (i+1)) (c:=c) hg (by omega)
 have ed:(cs.drop (i+1)).take (n - (i+1))=cs.drop (i+1):=List.take_of_length_le (by rw [List.length_drop];omega)
 rw [ed] at r2
 have ho:(cs.drop (i+1)).all RM.bk=true:=List.all_eq_true.2 fun x hx=>List.all_eq_true.1 hone x (List.mem_of_mem_drop hx)
 have hb:dA TT H.n .append [VS k 0 i (n+3),VS k (i+1) (n - (i+1)) c] [23,23] H.get=(bif Nat.beq (n - (i+1)) 0 then some (VS k 0 i (n+3),bL.none) else fV H.n inf (some ⟨k,0,none⟩) i (n+3) (n - (i+1)) ((cs.drop 0).take i) (cs.drop (i+1)) H.get):=by
  show (match TT.ty.get 23 with|some ⟨.slice _,_,_,_,_,_,_⟩=>eD TT H.n 23 (VS k 0 i (n+3)) (VS k (i+1) (n - (i+1)) c) H.get|_=>none)=_
  rw [hs]
  show eD TT H.n 23 (VS k 0 i (n+3)) (VS k (i+1) (n - (i+1)) c) H.get=_
  unfold eD
  simp only [h1,tN,h2,r1,r2,h3,ho,h4]
  rw [nZ (show (i+(n - (i+1))) * 8≤140737488355328 by omega),nZ (show i+(n - (i+1))≤9223372036854775807 by omega)]
  rfl
 rw [hb]
 by_cases hm:i+1=n
 ·rw [Tr.beq_eq,decide_eq_true (show n - (i+1)=0 by omega)]
  refine ⟨.none,?_,.inl ⟨rfl,hm⟩⟩
  rw [show i=n - 1 by omega]
  rfl
 ·rw [Tr.beq_eq,decide_eq_false (show ¬ n - (i+1)=0 by omega)]
  refine ⟨_,?_,.inr rfl⟩
  simp only [cond_false]
  unfold fV
  rw [Tr.beq_eq,decide_eq_false (show ¬ n+3=i by omega),nZ (show i+(n - (i+1))+3≤n+3 by omega)]
  simp only [cond_false,cond_true]
  unfold jv
  simp only [hg,cells?,h2,Nat.mul_one,Nat.zero_add,Bool.true_and]
  rw [nZ (show i+(n - (i+1))≤cs.length by omega),show i+(n - (i+1))=n - 1 by omega]
  rfl
theorem P7 {H:Hp} {k n:Nat} {cs:List Value} (hg:H.get k=some (.cells cs true 1)) (hl:cs.length=n) (hn:1≤n):dA TT H.n .clear [VS k (n - 1) 1 4] [23] H.get=some (.tuple #[],.put k (.cells (RM.splice cs [.int .i64 0] (n - 1)) true 1)):=by
 obtain ⟨inf,h1,h2,h3,h4,h5⟩:=t23
 obtain ⟨ee,a,b,c',d,f,g,hs⟩:=P6
 show kQ TT 23 (VS k (n - 1) 1 4) H.get=_
 unfold kQ
 simp only [hs,h1,hg,cells?,h2,h4,h5,Nat.mul_one]
 rw [nZ (show n - 1+1≤cs.length by omega)]
 rfl
theorem P8 {α:Type} {A R:α→Prop} {B:α→α→Prop} {P:α→Prop} (h1:∃ x,A x∧R x) (h2:∀ x,R x→∃ y,B x y∧P y):∃ x y,A x∧B x y∧P y:=by
 obtain ⟨x,a,r⟩:=h1
 obtain ⟨y,b,p⟩:=h2 x r
 exact ⟨x,y,a,b,p⟩
theorem CT {vs:List Value} {i n:Nat} (hl:vs.length=n) (hi:i < n):RM.splice (RM.splice vs (vs.drop (i+1)) i) [.int .i64 0] (n - 1)=vs.eraseIdx i++[.int .i64 0]:=by
 have e:vs.eraseIdx i=vs.take i++vs.drop (i+1):=by rw [List.eraseIdx_eq_take_drop_succ]
 have l1:(vs.take i++vs.drop (i+1)).length=n - 1:=by rw [List.length_append,List.length_take,List.length_drop];omega
 have l2:(RM.splice vs (vs.drop (i+1)) i).length=n:=by
  unfold RM.splice
  rw [List.length_append,l1,List.length_drop,List.length_drop]
  omega
 have l3:(RM.splice vs (vs.drop (i+1)) i).take (n - 1)=vs.take i++vs.drop (i+1):=by
  unfold RM.splice
  rw [List.take_append_of_le_length (by omega),List.take_of_length_le (by omega)]
 rw [e]
 generalize RM.splice vs (vs.drop (i+1)) i=S at l2 l3
 unfold RM.splice
 rw [l3,List.drop_eq_nil_of_le (show S.length≤n - 1+[Value.int .i64 0].length by rw [List.length_singleton];omega),List.append_nil]
theorem tL {vs:List Value} {i n:Nat} (hl:vs.length=n) (hi:i+1=n):RM.splice vs (vs.drop (i+1)) i=vs:=by
 unfold RM.splice
 rw [List.drop_eq_nil_of_le (show vs.length≤i+1 by omega),List.append_nil,List.length_nil,Nat.add_zero,List.take_append_drop]
def vals (l:List Int):List Value:=l.map fun x=>.int .i64 x
theorem sW (l:List Int):dw l=(vals l).map .fl:=by unfold vals dw;rw [List.map_map];rfl
theorem lN:∀ l:List Int,(vals l).all aS=true
 | []=>rfl
 | _ :: l=>lN l
theorem sX {a:List Value} (h:a.all aS=true) (n:Nat):(a.drop n).all aS=true:=List.all_eq_true.2 fun x hx=>List.all_eq_true.1 h x (List.mem_of_mem_drop hx)
theorem wO {a b:List Value} (ha:a.all aS=true) (hb:b.all aS=true) (i:Nat):(RM.splice a b i).all aS=true:=by
 unfold RM.splice
 rw [List.all_append,List.all_append,hb,sX ha]
 have:(a.take i).all aS=true:=List.all_eq_true.2 fun x hx=>List.all_eq_true.1 ha x (List.mem_of_mem_take hx)
 rw [this]
 rfl
theorem RT (one:Bool) {l:List Int} {i:Nat} (hi:i < l.length) (h8:l.length≤8) {Q:AV→List AB→bG→Prop} (hQ:Q (.bI 0 0 0 (l.length - 1) (l.length+3)) [.cells (dw (l.eraseIdx i)++[aC 0]) 1 0] bG.none) :
  av TT TB one (.fn 66 [] []) [.bI 0 0 0 l.length (l.length+1),aC (i:Nat),aC ((i+1:Nat):Int)] [.cells (dw l) 1 0] bG.none Q:=by
 have d1:decide (((i:Nat):Int)=((i+1:Nat):Int))=false:=decide_eq_false (by omega)
 refine av.body (fn:=Tryd.f66) rfl rfl rfl ?_
 refine RM.cS (mu:=fun _=>false) ?_
 repeat' (first |refine u1 ?_ |refine u2 ?_ |fail)
 refine aA.seq ?_
 refine aA.P4 (l1:=[_,_,_,_,_]) (l2:=[_]) (id1:=0) (id2:=0) rfl rfl ?_
 refine RM.cS (mu:=fun _=>false) ?_
 repeat' (first |refine u1 ?_ |refine u2 ?_ |fail)
 refine aA.Th rfl ?_
 refine R6.Sx rfl rfl rfl rfl rfl (by decide) ⟨Nat.le_succ _,hi,Nat.le_refl _⟩ (by omega) ?_
 refine RM.cS (mu:=fun _=>false) ?_
 repeat' (first |refine u1 ?_ |refine u2 ?_ |fail)
 refine RM.cS (mu:=fun _=>false) ?_
 repeat' (first |refine u1 ?_ |refine u2 ?_ |fail)
 refine aA.aX (aj.to (l:=[(0,.bI 0 0 0 l.length (l.length+1)),(1,aC (i:Nat)),(2,aC ((i+1:Nat):Int)),(7,aC (l.length:Nat))]) (hp:=[.cells (dw l) 1 0]) 1 rfl ⟨rfl,rfl,rfl,rfl,trivial⟩ (Nat.le_of_ble_eq_true rfl) rfl (fu _ _)) ?_
 refine aA.Sy (st2:=⟨bx [(0,.bI 0 0 0 (l.length - 1) (l.length+3))],[.cells (dw (l.eraseIdx i)++[aC 0]) 1 0],bG.none,false,1⟩) rfl (fun E base s hs=>?_) ?_
 rotate_left
 ·refine aa (mu:=fun _=>false) ?_
  repeat' (first |refine u1 ?_ |refine u2 ?_ |fail)
  exact hQ
 have a0:AR E.ρ s.hp.get (E.O [.cells (dw l) 1 0]) (.bI 0 0 0 l.length (l.length+1)) (aG s.fr (.tmp 0)):=hs.fr 0
 have e1:aG s.fr (.tmp 1)=VI i:=(hs.fr 1).dL.1
 have e2:aG s.fr (.tmp 2)=VI (i+1):=(hs.fr 2).dL.1
 have e7:aG s.fr (.tmp 7)=VI l.length:=(hs.fr 7).dL.1
 rcases a0.eH with ⟨k,hk,e0⟩|⟨_,h0,_⟩
 rotate_left
 ·omega
 obtain ⟨cs',q1,q2⟩:=hs.h.cells (j:=0) (aB:=0) rfl hk
 rw [sW] at q2
 obtain ⟨rfl,_⟩:=q2.dL
 have hvl:(vals l).length=l.length:=by simp [vals]
 have hone:(vals l).all RM.bk=true:=by
  unfold vals
  rw [List.all_map,List.all_eq_true]
  intro x _
  rfl
 obtain ⟨c,hcut⟩:=RQ (k:=k) (n:=l.length) (j:=i+1) hi
 obtain ⟨e,ha,he⟩:=Mn (c:=c) q1 hvl hi h8 hone
 refine ⟨0,P8 (R:=fun s1=>aG s1.fr (.tmp 0)=VS k 0 (l.length - 1) (l.length+3)∧aG s1.fr (.tmp 7)=VI l.length∧s1.hp=s.hp.app e∧s1.rd=s.rd) ?_ ?_⟩
 ·refine ⟨?w1,Ex (s':=?w1) (n:=8) ?p1 rfl rfl rfl rfl ?r1,?z1⟩
  case r1 =>
   refine bT (v:=VS k 0 l.length (l.length+1)) (e:=.none) rfl (by show some (aG s.fr (.tmp 0),bL.none)=_;rw [e0]) ?_
   refine bT (v:=VI i) (e:=.none) rfl (by show some (aG _ (.tmp 1),bL.none)=_;simp [nj,e1]) ?_
   refine bT (v:=VS k 0 i (l.length+3)) (e:=.none) rfl (by show dh TT 23 (aG _ (.tmp 20)) none (some (aG _ (.tmp 21)))=_;simp only [nj];exact RP hi) ?_
   refine bT (v:=VS k 0 l.length (l.length+1)) (e:=.none) rfl (by show some (aG _ (.tmp 0),bL.none)=_;simp [nj,e0]) ?_
   refine bT (v:=VI (i+1)) (e:=.none) rfl (by show some (aG _ (.tmp 2),bL.none)=_;simp [nj,e2]) ?_
   refine bT (v:=VS k (i+1) (l.length - (i+1)) c) (e:=.none) rfl (by show dh TT 23 (aG _ (.tmp 23)) (some (aG _ (.tmp 24))) none=_;simp only [nj];exact hcut) ?_
   refine bT (v:=VS k 0 (l.length - 1) (l.length+3)) (e:=e) rfl (by show dA TT _ .append [aG _ (.tmp 22),aG _ (.tmp 25)] [23,23] _=_;simp only [nj];exact ha) ?_
   refine bT (v:=VS k 0 (l.length - 1) (l.length+3)) (e:=.none) rfl (by show some (aG _ (.tmp 26),bL.none)=_;simp [nj]) ?_
   exact dJ _ _
  case p1=>repeat' (first |rfl |exact fun _=>rfl |exact trivial |constructor)
  case z1 =>
   refine ⟨by simp only [nj];rfl,by simp only [nj];simp [e7],rfl,rfl⟩
 ·rintro s1 ⟨f0,f7,f1,f2⟩
  have g1:(s.hp.app e).get k=some (.cells (RM.splice (vals l) ((vals l).drop (i+1)) i) true 1):=by
   rcases he with ⟨rfl,he⟩|rfl
   ·rw [tL hvl he];exact q1
   ·exact fZ
  have gl:(RM.splice (vals l) ((vals l).drop (i+1)) i).length=l.length:=by
   unfold RM.splice
   simp only [List.length_append,List.length_take,List.length_drop]
   omega
  have hclr:=P7 g1 gl (by omega)
  refine ⟨?w2,GM (s':=?w2) ?r2,E,?z2⟩
  case r2 =>
   refine bT (v:=VS k 0 (l.length - 1) (l.length+3)) (e:=.none) rfl (by show some (aG s1.fr (.tmp 0),bL.none)=_;rw [f0]) ?_
   refine bT (v:=VS k 0 (l.length - 1) (l.length+3)) (e:=.none) rfl (by show some (aG _ (.tmp 0),bL.none)=_;simp [nj,f0]) ?_
   refine bT (v:=VI (l.length - 1)) (e:=.none) rfl (by show dA TT 0 Builtin.len [aG _ (.tmp 28)] [23] s1.hp.get=_;rw [nj,if_pos rfl];exact SB) ?_
   refine bT (v:=VI l.length) (e:=.none) rfl (by show some (aG _ (.tmp 7),bL.none)=_;simp [nj,f7]) ?_
   refine bT (v:=VS k (l.length - 1) 1 4) (e:=.none) rfl (by show dh TT 23 (aG _ (.tmp 27)) (some (aG _ (.tmp 29))) (some (aG _ (.tmp 30)))=_;simp only [nj];exact RR (by omega)) ?_
   refine bT (e:=.put k (.cells (RM.splice (RM.splice (vals l) ((vals l).drop (i+1)) i) [.int .i64 0] (l.length - 1)) true 1)) rfl (by show dA TT s1.hp.n .clear [aG _ (.tmp 31)] [23] s1.hp.get=_;rw [nj,if_pos rfl,f1];exact hclr) ?_
   exact dJ _ _
  case z2 =>
   have step1:aQ E base [.cells ((RM.splice (vals l) ((vals l).drop (i+1)) i).map .fl) 1 0] bG.none (s.hp.app e)∧Ext base E [.cells (dw l) 1 0] s.hp E [.cells ((RM.splice (vals l) ((vals l).drop (i+1)) i).map .fl) 1 0] (s.hp.app e):=by
    rcases he with ⟨rfl,he⟩|rfl
    ·rw [tL hvl he,←sW]
     exact ⟨hs.h,.refl⟩
    ·refine hs.h.put (j:=0) (aB:=0) (a:=.cells ((RM.splice (vals l) ((vals l).drop (i+1)) i).map .fl) 1 0) rfl rfl rfl hk ⟨_,rfl,fy.sA (wO (lN l) (sX (lN l) _) _)⟩
   have hk2:=step1.2.AF 0 0 k hk
   have step2:=step1.1.put (j:=0) (aB:=0) (a:=.cells ((RM.splice (RM.splice (vals l) ((vals l).drop (i+1)) i) [.int .i64 0] (l.length - 1)).map .fl) 1 0) (b:=.cells (RM.splice (RM.splice (vals l) ((vals l).drop (i+1)) i) [.int .i64 0] (l.length - 1)) true 1) rfl rfl rfl hk ⟨_,rfl,fy.sA (wO (wO (lN l) (sX (lN l) _) _) rfl _)⟩
   have he6:(RM.splice (RM.splice (vals l) ((vals l).drop (i+1)) i) [.int .i64 0] (l.length - 1)).map AV.fl=dw (l.eraseIdx i)++[aC 0]:=by
    rw [CT hvl hi,List.map_append,sW]
    unfold vals
    rw [List.eraseIdx_eq_take_drop_succ,List.eraseIdx_eq_take_drop_succ]
    simp only [List.map_append,List.map_take,List.map_drop]
    rfl
   have hx:Ext base E [.cells (dw l) 1 0] s.hp E [.cells (dw (l.eraseIdx i)++[aC 0]) 1 0] ((s.hp.app e).put k (.cells (RM.splice (RM.splice (vals l) ((vals l).drop (i+1)) i) [.int .i64 0] (l.length - 1)) true 1)):=by
    rw [←he6]
    exact step1.2.trans step2.2
   have hr:aQ E base [.cells (dw (l.eraseIdx i)++[aC 0]) 1 0] bG.none ((s.hp.app e).put k (.cells (RM.splice (RM.splice (vals l) ((vals l).drop (i+1)) i) [.int .i64 0] (l.length - 1)) true 1)):=by
    rw [←he6]
    exact step2.1
   rw [←f1] at hx hr
   refine ⟨⟨hr,f2.trans hs.rd,fun t=>?_⟩,hx.DG⟩
   show AR _ _ _ (bif Nat.beq t 0 then _ else AV.bM) _
   rw [Tr.beq_eq]
   by_cases ht:t=0
   ·subst ht
    rw [decide_eq_true rfl]
    have:aG s1.fr (.tmp 0)=VS k 0 (l.length - 1) (l.length+3):=f0
    show AR _ _ _ (.bI 0 0 0 (l.length - 1) (l.length+3)) (aG (cu (cu (cu (cu (cu s1.fr (some 27) _) (some 28) _) (some 29) _) (some 30) _) (some 31) _) (.tmp 0))
    simp only [nj]
    show AR _ _ _ _ (aG s1.fr (.tmp 0))
    rw [this]
    exact .bI hk
   ·rw [decide_eq_false ht]
    exact .bM
theorem RU (one:Bool) {s:ai} (hg:Good s) {days:List Int} (h6:days.length≤6) (hdp:days.Pairwise (· < ·)) (hdr:∀ x ∈ days,0≤x∧x < s.days):Pu one 65 [.ag (az s),.sl (ints days) false] (.tp [.sl (((iZ s days).getD []).map aD) false,BB (iZ s days).isSome]):=by
 have hc:=fun (Q:AV→List AB→bG→Prop) (hQ:Q (So (iZ s days)) (Sq (iZ s days)) bG.none)=>NM one hg (days:=days) false h6 hdp hdr (aE:=bG.none) (Q:=Q) hQ
 cases hf:iZ s days with
 | none =>
  rw [hf] at hc
  exact ah.P9 rfl (hc _ ⟨rfl,rfl⟩) ⟨Fz.nil,Fz.deep rfl,trivial⟩
 | some p =>
  rw [hf] at hc
  cases p with
  | nil=>exact ah.P9 rfl (hc _ ⟨rfl,rfl⟩) ⟨Fz.nil,Fz.deep rfl,trivial⟩
  | cons a l=>exact ah.P9 rfl (hc _ ⟨rfl,rfl⟩) ⟨Fz.row (es:=2) rfl (gx _).1 (gx _).2.1 (gx _).2.2.1 (gx _).2.2.2 (lI _) (fun h=>Bool.noConfusion h),Fz.deep rfl,trivial⟩
theorem KZ {l:List Int} {i:Nat} (full:Bool) (hi:i < l.length) (h8:l.length≤8):CQ TT TB (.fn 51 [] []) [.sl (ints l) full] (.fn 66 [] []) [aC (i:Nat),aC ((i+1:Nat):Int)] (.sl (ints (l.eraseIdx i)) false):=by
 have hne:l ≠ []:=fun h=>by rw [h] at hi;simp at hi
 have hle:(l.eraseIdx i).length=l.length - 1:=List.length_eraseIdx_of_lt hi
 have hln:(dw (l.eraseIdx i)).length=l.length - 1:=by rw [List.length_map,hle]
 refine CQ.of rfl (KY true full hne h8 ⟨rfl,rfl,rfl⟩) (RT true hi h8 (Fz.row (es:=1) rfl ?_ ?_ (fun el hel=>by obtain ⟨x,_,rfl⟩:=List.mem_map.1 hel;rfl) ?_ ?_ (fun h=>Bool.noConfusion h)))
 ·rw [List.length_append,hln]
  simp only [List.length_singleton]
  omega
 ·rw [List.length_map,hle]
 ·rw [eV,List.drop_zero,Nat.mul_one,List.take_append_of_le_length (by rw [hln];exact Nat.le_refl _),List.take_of_length_le (by rw [hln];exact Nat.le_refl _)]
 ·rw [eV]
  exact lG _
theorem Mo {P:Program} {t:TypeId} {x y:Operand} {k:Nat} (hk:k < 1000):dz P .add t x y (.int .i64 (k:Int)) (.int .i64 1)=some (.int .i64 ((k+1:Nat):Int),.none):=by
 have:gT .add (k:Int) 1=some (.int .i64 ((k:Int)+1)):=by
  unfold gT lQ
  simp only
  rw [show Int.add (k:Int) 1=(k:Int)+1 from rfl,qR (by omega)]
  rfl
 unfold dz
 simp only [this]
 rfl
def hU (s:ai) (k:Nat):List Int:=((List.range k).filter fun i=>(iZ s (s.possible.eraseIdx i)).isNone).map fun i=>s.possible.getD i 0
theorem Ey {s:ai} {k:Nat} (h:k < s.possible.length):hU s (k+1)=hU s k++if (iZ s (s.possible.eraseIdx k)).isNone=true then [s.possible[k]] else []:=by
 unfold hU
 rw [List.range_succ,List.filter_append,List.map_append]
 have hd:s.possible.getD k 0=s.possible[k]:=FI h
 cases hf:(iZ s (s.possible.eraseIdx k)).isNone with
 | true =>
  rw [if_pos rfl,←hd]
  simp [hf]
 | false=>simp [hf]
theorem yS (s:ai) (k:Nat):(hU s k).length≤k:=by
 unfold hU
 rw [List.length_map]
 exact Nat.le_trans (List.length_filter_le _ _) (by simp)
def lO (s:ai):List Int:=if rL s=0 then hU s s.possible.length else []
theorem tM {l:List Int} {i:Nat} {d:Int} (hp:l.Pairwise (· < ·)) (hr:∀ x ∈ l,0≤x∧x < d):(l.eraseIdx i).Pairwise (· < ·)∧∀ x ∈ l.eraseIdx i,0≤x∧x < d:=by
 have hs:(l.eraseIdx i).Sublist l:=List.eraseIdx_sublist l i
 exact ⟨hp.sublist hs,fun x hx=>hr x (hs.subset hx)⟩
theorem Qa (one:Bool) (s:ai) (hs:s.Ok):Pu one 32 [.ag (az s)] (.tp [.sl (ints (lO s)) false,aC (rL s)]):=by
 have o1:=CO one s hs
 unfold lO
 by_cases c1:rL s=0
 ·rw [if_pos c1]
  rw [c1] at o1 ⊢
  have c2:(i7 s).2.2=0:=by
   unfold rL at c1
   by_cases h:(i7 s).2.2=0
   ·exact h
   ·rw [if_neg h] at c1
    exact absurd c1 h
  have hg:=kW c2
  have hm:=hg.many
  obtain ⟨p1,p2⟩:=rF hg
  have hdp:s.possible.Pairwise (· < ·):=List.pairwise_iff_getElem.2 fun i j hi hj hij=>p2 i j hi hj hij
  have hdr:∀ x ∈ s.possible,0≤x∧x < s.days:=fun x hx=>by obtain ⟨i,hi,rfl⟩:=List.mem_iff_getElem.1 hx;exact p1 i hi
  clear p1 p2
  have d0:(!decide ((0:Int)=0))=false:=by decide
  have ep:((ints s.possible).length:Int)=s.possible.length:=by simp
  refine ah.body (fn:=Tryd.f32) rfl rfl rfl rfl ?_
  refine RM.cS (mu:=fun _=>false) ?_
  repeat' (first |refine u1 ?_ |refine u2 ?_ |fail)
  refine RM.cS (mu:=fun _=>false) ?_
  repeat' (first |(refine ah.call o1 rfl rfl ?_) |refine u1 ?_ |refine u2 ?_ |fail)
  refine aA.seq ?_
  refine RM.cS (mu:=fun _=>false) ?_
  repeat' (first |refine u1 ?_ |refine u2 ?_ |fail)
  refine aA.block ?_
  refine aA.aX (aj.trans (aj.qc 1) (aj.NC (l:=[(1,.pt (az s) 0),(2,.bI 0 0 0 (hU s 0).length 0),(17,.sl (ints s.possible) false),(18,aC ((ints s.possible).length:Nat)),(19,aC (0:Nat))]) (hp:=[.cells (dw (hU s 0)) 1 0]) 1 rfl ⟨bO.refl _,bO.qb,bO.refl _,bO.refl _,bO.refl _,trivial⟩ (Nat.zero_le _) rfl (fu _ _))) ?_
  refine aA.loop (fun x:Nat × Nat × Nat=>x.1≤s.possible.length∧(x.2.2=(hU s x.1).length∨x.2.2=(hU s x.1).length+1)) (fun x=>⟨bx [(1,.pt (az s) 0),(2,.bI 0 x.2.1 0 (hU s x.1).length x.2.2),(17,.sl (ints s.possible) false),(18,aC ((ints s.possible).length:Nat)),(19,aC (x.1:Nat))],[.cells (dw (hU s x.1)) 1 x.2.1],bG.none,false,0⟩) (fun x=>s.possible.length - x.1) ?_ (0,0,0) ⟨Nat.zero_le _,.inl rfl⟩
  rintro ⟨k,aB,c⟩ ⟨hk,hcap⟩
  dsimp only at hk hcap
  show aA _ _ _ _ ⟨bx [(1,.pt (az s) 0),(2,.bI 0 aB 0 (hU s k).length c),(17,.sl (ints s.possible) false),(18,aC ((ints s.possible).length:Nat)),(19,aC (k:Nat))],[.cells (dw (hU s k)) 1 aB],bG.none,false,0⟩ _
  have hml:=yS s k
  by_cases hlt:k < s.possible.length
  ·have d1:decide ((k:Int) < ((ints s.possible).length:Int))=true:=decide_eq_true (by omega)
   have hs1:=Ey hlt
   have hat:(ints s.possible)[((k:Nat):Int).toNat]?=some (eI s.possible[k]):=cI hlt
   obtain ⟨ep1,ep2⟩:=tM (i:=k) hdp hdr
   have e6:(s.possible.eraseIdx k).length≤6:=Nat.le_trans (List.length_eraseIdx_le _ _) (by omega)
   have of:=RU true hg e6 ep1 ep2
   have os:=KZ false hlt (by omega)
   have hgl:(dw (hU s k)).length=(hU s k).length:=by rw [List.length_map]
   generalize s.possible[k]=z at *
   generalize hR:iZ s (s.possible.eraseIdx k)=R at *
   refine RM.cS (mu:=fun _=>false) ?_
   repeat' (first |refine u1 ?_ |refine u2 ?_ |fail)
   refine RM.cS (mu:=fun _=>false) ?_
   repeat' (first |refine u1 ?_ |refine u2 ?_ |fail)
   refine aA.seq ?_
   refine aA.block ?_
   refine RM.cS (mu:=fun _=>false) ?_
   repeat' (first |refine u1 ?_ |refine u2 ?_ |fail)
   refine aA.seq ?_
   refine aA.pair (mu:=fun _=>false) (n:=15) (A:=[_,_,_,_]) (ms:=[_,_,_]) (B:=[_,_,_,_,_,_]) (by kernel_rfl) rfl rfl ?_
   repeat' (first |(refine RM.SN ?_) |(refine RM.SM ?_) |refine u1 ?_ |refine u2 ?_ |fail)
   refine ⟨_,_,29,_,_,rfl,rfl,rfl,rfl,rfl,rfl,rfl,rfl,?_⟩
   refine ⟨rfl,rfl,(fun _=>rfl),.int .i64 (k:Nat),rfl,(fun ρ hρ n g=>by show some (ρ (.tmp 4),bL.none)=_;rw [hρ (.tmp 4) _ rfl]),?_⟩
   refine ⟨rfl,rfl,(fun _=>rfl),.int .i64 (k:Nat),rfl,(fun ρ hρ n g=>by show some (ρ (.tmp 4),bL.none)=_;rw [hρ (.tmp 4) _ rfl]),?_⟩
   refine ⟨rfl,rfl,(fun _=>rfl),.int .i64 ((k+1:Nat):Int),rfl,(fun ρ hρ n g=>by show dz TT.P .add 3 _ _ (ρ (.tmp 31)) (ρ (.const (.int .i64 1)))=_;rw [hρ (.tmp 31) _ rfl,hρ (.const _) _ rfl];exact Mo (by omega)),?_⟩
   refine ⟨rfl,rfl,_,os,?_⟩
   repeat' (first |(refine RM.SN ?_) |(refine RM.SM ?_) |(refine ⟨_,of,?_⟩) |refine u1 ?_ |refine u2 ?_ |fail)
   cases R with
   | some q =>
    rw [if_neg (by simp)] at hs1
    refine aa (mu:=fun _=>false) ?_
    repeat' (first |refine u1 ?_ |refine u2 ?_ |fail)
    refine aa (mu:=fun _=>false) ?_
    repeat' (first |refine u1 ?_ |refine u2 ?_ |fail)
    exact ⟨(k+1,aB,c),⟨hlt,by dsimp only;rw [hs1,List.append_nil];exact hcap⟩,(by dsimp only;omega),aj.to 1 (by dsimp only;rw [hs1,List.append_nil];rfl) ⟨rfl,(by dsimp only;rw [hs1,List.append_nil];rfl),rfl,rfl,bW (by simp),trivial⟩ (Nat.zero_le _) rfl (fu _ _)⟩
   | none =>
    rw [if_pos (show (none:Option (List Order)).isNone=true from rfl)] at hs1
    refine aa (mu:=fun _=>false) ?_
    repeat' (first |(refine RM.DP (cs:=dw (hU s k)) (n:=(hU s k).length) (els:=[eI z]) rfl rfl rfl rfl rfl (fun el hel=>by rw [List.mem_singleton.1 hel];rfl) rfl rfl (by rw [hgl];exact (Nat.mul_one _).symm) hcap (by simp only [List.length_singleton];omega) (fun v' c' hc'=>?_)) |refine u1 ?_ |refine u2 ?_ |fail)
    refine aa (mu:=fun _=>false) ?_
    repeat' (first |refine u1 ?_ |refine u2 ?_ |fail)
    exact ⟨(k+1,v',c'),⟨hlt,by dsimp only;rw [hs1,List.length_append];exact hc'⟩,(by dsimp only;omega),aj.to 1 (by dsimp only;rw [hs1];unfold dw;rw [List.map_append];rfl) ⟨rfl,(by dsimp only;rw [hs1,List.length_append];rfl),rfl,rfl,bW (by simp),trivial⟩ (Nat.zero_le _) rfl (fu _ _)⟩
  ·obtain rfl:k=s.possible.length:=by omega
   have d1:decide ((s.possible.length:Int) < ((ints s.possible).length:Int))=false:=decide_eq_false (by omega)
   refine aa (mu:=fun _=>false) ?_
   repeat' (first |refine u1 ?_ |refine u2 ?_ |fail)
   refine aa (mu:=fun _=>false) ?_
   repeat' (first |refine u1 ?_ |refine u2 ?_ |fail)
   exact ⟨[_,_],⟨Fz.row (es:=1) rfl (by rw [List.length_map];omega) (by rw [List.length_map]) (fun el hel=>by obtain ⟨x,_,rfl⟩:=List.mem_map.1 hel;rfl) (by rw [eV,List.drop_zero,List.take_of_length_le (by rw [List.length_map];omega)]) (by rw [eV];exact lG _) (fun h=>Bool.noConfusion h),Fz.deep rfl,trivial⟩,rfl⟩
 ·rw [if_neg c1]
  have d0:(!decide (rL s=0))=true:=by rw [decide_eq_false c1];rfl
  refine ah.body (fn:=Tryd.f32) rfl rfl rfl rfl ?_
  refine aa (mu:=fun _=>false) ?_
  repeat' (first |(refine ah.call o1 rfl rfl ?_) |refine u1 ?_ |refine u2 ?_ |fail)
  exact ⟨[_,_],⟨Fz.nil,Fz.deep rfl,trivial⟩,rfl⟩
end Go.Proofs.YtpeogffeoehboaaDoor
