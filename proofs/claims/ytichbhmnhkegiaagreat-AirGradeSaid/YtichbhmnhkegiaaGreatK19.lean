/-
  Contracts of the program's functions and of the document's. Lemmas alone; their conditions stand in them.
-/
import Derived.Test.YtichbhmnhkegiaaGreatA3
import Derived.Test.YtichbhmnhkegiaaGreatK12
import Derived.Test.YtichbhmnhkegiaaGreatK18
open Go Go.RM Go.AirLaw
namespace Go.Proofs.YtichbhmnhkegiaaGreat
set_option maxRecDepth 100000
set_option maxHeartbeats 4000000
def nM:List Int→AV
 | []=>.fl (.slice none 0 0)
 | [a]=>.sl [eI a] true
 | a :: b :: l=>.sl ((a :: b :: l).map eI) false
theorem CT:∀ l,(nM l).deep=true
 | []=>rfl
 | [_]=>rfl
 | _ :: _ :: _=>rfl
theorem Ke:∀ l,(nM l).one=true
 | []=>rfl
 | [_]=>rfl
 | _ :: _ :: _=>rfl
theorem Kf (n:Nat):∀ l,(nM l).cJ n=true
 | []=>rfl
 | [_]=>rfl
 | _ :: _ :: _=>rfl
theorem Gy:∀ l,(nM l).cells=[nM l]
 | []=>rfl
 | [_]=>rfl
 | _ :: _ :: _=>rfl
abbrev w6 (l:List Int):List AV:=[nM l]
theorem Ee:∀ L:List (List Int),(L.map w6).flatten=L.map nM
 | []=>rfl
 | a :: l=>by
  show w6 a++(l.map w6).flatten=_
  rw [Ee l];rfl
theorem IJ:∀ L:List (List Int),bP (L.map nM)=true
 | []=>rfl
 | a :: l=>by
  show ((nM a).deep && bP (l.map nM))=true
  rw [CT,IJ l];rfl
theorem KH (n:Nat):∀ L:List (List Int),iM n (L.map nM)=true
 | []=>rfl
 | a :: l=>by
  show ((nM a).cJ n && iM n (l.map nM))=true
  rw [Kf,KH n l];rfl
theorem vm (L:List (List Int)) (v:Nat):([.cells (L.map nM) 1 v]:List AB).all (AB.cJ 1)=true:=by
 have h:AB.cJ 1 (.cells (L.map nM) 1 v)=true:=KH 1 L
 simp only [List.all_cons,List.all_nil,h,Bool.and_true]
theorem IK {hp:List AB} {j v c n:Nat} {L:List (List Int)} (h:hp[j]?=some (.cells (L.map nM) 1 v)) (hn:L.length=n):Fz hp (.bg j v 0 n c) (.sl (L.map w6) false) :=
 Fz.row (es:=1) h (by simp;omega) (by simp;omega) (fun el hel=>by obtain ⟨x,_,rfl⟩:=List.mem_map.1 hel;rfl) (by rw [Ee,List.drop_zero,List.take_of_length_le (by simp;omega)]) (by rw [Ee];exact IJ _) (fun h=>Bool.noConfusion h)
theorem Kg {hp:List AB}:∀ l,yC hp 1 (nM l) (l.map eI)
 | []=>⟨(fun _ h=>by cases h),rfl⟩
 | [_]=>⟨(fun el hel=>by rw [List.mem_singleton.1 hel];rfl),rfl⟩
 | _ :: _ :: _=>⟨(fun el hel=>by obtain ⟨x,_,rfl⟩:=List.mem_map.1 hel;rfl),rfl⟩
theorem CU:∀ l:List Int,(l.map eI).flatten.all AV.one=true
 | []=>rfl
 | a :: l=>by
  show (AV.one (ai a) && (l.map eI).flatten.all AV.one)=true
  rw [CU l];rfl
theorem CV:∀ l:List Int,bP (l.map eI).flatten=true
 | []=>rfl
 | a :: l=>by
  show (AV.deep (ai a) && bP (l.map eI).flatten)=true
  rw [CV l];rfl
theorem Ly:∀ l,bP (List.map (fun x:Nat × AV=>x.snd.cells) [(0,nM l)]).flatten=true
 | []=>rfl
 | [_]=>rfl
 | _ :: _ :: _=>rfl
theorem Lz:∀ l,jM 1 0 [(0,nM l)]=true
 | []=>rfl
 | [_]=>rfl
 | _ :: _ :: _=>rfl
theorem vn {K:AV→Prop}:∀ {l:List Int},K (nM l)→force (nM l) K
 | [],h=>h
 | [_],h=>h
 | _ :: _ :: _,h=>h
theorem MH {fr:Nat→AV} {hp:List AB} {K:AV→List AB→Prop} {s x:Operand} {n:Int} {l:List Int} (hs:aM fr s=.sl [eI n] true) (hx:aM fr x=nM l) (hl:l.length≤1000) (hk:K (nM (n :: l)) hp) :
  RM.wpOp TT false (.call ⟨.builtin .append,[s,x].toArray,[45,45].toArray⟩) fr hp K:=by
 show force (aM fr s) fun a=>force (aM fr x) fun b=>gQ TT false .append [a,b] [45,45] hp K
 have hg:iB TT false 45 (.sl [eI n] true) (nM l) hp K:=by
  refine ⟨rfl,l.map eI,Kg l,CU l,(fun el hel=>by rw [List.mem_singleton.1 hel];rfl),⟨?_,?_⟩,?_,?_⟩
  ·show (1+(l.map eI).length) * 8≤140737488355328
   rw [List.length_map];omega
  ·show 1+(l.map eI).length≤_
   rw [List.length_map];omega
  ·intro h
   rw [List.map_eq_nil_iff] at h
   subst h
   exact hk
  ·intro h
   match l,h,hk with
   | a :: l,_,hk=>exact ⟨CV _,hk⟩
 rw [hs,hx]
 match l,hg with
 | [],hg=>exact hg
 | [_],hg=>exact hg
 | _ :: _ :: _,hg=>exact hg
def nN (k n a i:Nat):List (List Int):=(List.range' a (i - a)).flatMap fun j=>(bF k (j+1) (n - (j+1))).map fun l=>(j:Int) :: l
theorem tZ (k n a:Nat):nN k n a a=[]:=by unfold nN;rw [Nat.sub_self];rfl
theorem zc {k n a i:Nat} (h:a≤i):nN k n a (i+1)=nN k n a i++(bF k (i+1) (n - (i+1))).map fun l=>(i:Int) :: l:=by
 unfold nN
 rw [show i+1 - a=i - a+1 by omega,List.range'_concat,List.flatMap_append]
 congr 1
 rw [show a+1 * (i - a)=i by omega]
 simp
theorem CW {k n a:Nat} (h:a≤n):nN k n a n=bF (k+1) a (n - a):=by
 unfold nN
 rw [bF]
 rw [show a+(n - a)=n by omega]
theorem ze:∀ (m k a:Nat),(bF k a m).length≤2 ^ m:=by
 intro m
 induction m with
 | zero =>
  intro k a
  cases k with
  | zero=>rw [gK];exact Nat.le_refl _
  | succ k=>rw [qT];exact Nat.zero_le _
 | succ m ih =>
  intro k a
  cases k with
  | zero=>rw [gK];exact Nat.one_le_two_pow
  | succ k =>
   rw [qU,List.length_append,List.length_map,Nat.pow_succ]
   have h1:=ih k (a+1)
   have h2:=ih (k+1) (a+1)
   omega
theorem CX {k n a i:Nat} (ha:a≤i) (hi:i≤n) (hn:n≤8):(nN k n a i).length≤256:=by
 have hmono:∀ d,i+d≤n→(nN k n a i).length≤(nN k n a (i+d)).length:=by
  intro d
  induction d with
  | zero=>intro _;exact Nat.le_refl _
  | succ d ih =>
   intro h
   refine Nat.le_trans (ih (by omega)) ?_
   rw [show i+(d+1)=i+d+1 by omega,zc (by omega),List.length_append]
   omega
 have h1:=hmono (n - i) (by omega)
 rw [show i+(n - i)=n by omega,CW (by omega)] at h1
 have h2:=ze (n - a) (k+1) a
 have h3:2 ^ (n - a)≤2 ^ 8:=Nat.pow_le_pow_right (by decide) (by omega)
 omega
theorem Kh (one:Bool) (n:Nat) (hn:n≤8):∀ (k a:Nat),a≤n→k≤n→Pu one 104 [ai (a:Nat),ai (n:Nat),ai (k:Nat)] (.sl ((bF k a (n - a)).map w6) false):=by
 intro k
 induction k with
 | zero =>
  intro a _ _
  rw [gK]
  have d1:decide (((0:Nat):Int)=0)=true:=rfl
  refine af.body (fn:=Tryz.f104) rfl rfl rfl rfl ?_
  refine aa (mu:=fun _=>false) ?_
  repeat' (first |refine u1 ?_ |refine u2 ?_ |fail)
  exact ⟨[_],⟨Fz.full,trivial⟩,rfl⟩
 | succ k ih =>
  intro a ha hkn
  have d1:decide (((k+1:Nat):Int)=0)=false:=decide_eq_false (by omega)
  rw [←CW ha]
  refine af.body (fn:=Tryz.f104) rfl rfl rfl rfl ?_
  refine aa (mu:=fun _=>false) ?_
  repeat' (first |refine u1 ?_ |refine u2 ?_ |fail)
  refine ax.aK (ah.trans (ah.jw 1) (ah.GI (l:=[(1,ai (n:Nat)),(2,ai ((k+1:Nat):Int)),(7,.bg 0 0 0 (nN k n a a).length 0),(8,ai (a:Nat))]) (hp:=[.cells ((nN k n a a).map nM) 1 0]) 1 (by rw [tZ];rfl) ⟨bG.refl _,bG.refl _,(by rw [tZ];exact bG.jv),bG.refl _,trivial⟩ (Nat.zero_le _) rfl (vm _ _))) ?_
  refine ax.loop (fun x:Nat × Nat × Nat=>(a≤x.1∧x.1≤n)∧(x.2.2=(nN k n a x.1).length∨x.2.2=(nN k n a x.1).length+1)) (fun x=>⟨aF [(1,ai (n:Nat)),(2,ai ((k+1:Nat):Int)),(7,.bg 0 x.2.1 0 (nN k n a x.1).length x.2.2),(8,ai (x.1:Nat))],[.cells ((nN k n a x.1).map nM) 1 x.2.1],aV.none,false,0⟩) (fun x=>n - x.1) ?_ (a,0,0) ⟨⟨Nat.le_refl _,ha⟩,.inl (by dsimp only;rw [tZ];rfl)⟩
  rintro ⟨i,ver,c⟩ ⟨hi,hcap⟩
  dsimp only at hi hcap
  show ax _ _ _ _ ⟨aF [(1,ai (n:Nat)),(2,ai ((k+1:Nat):Int)),(7,.bg 0 ver 0 (nN k n a i).length c),(8,ai (i:Nat))],[.cells ((nN k n a i).map nM) 1 ver],aV.none,false,0⟩ _
  refine aa (mu:=fun t=>Nat.beq t 41) ?_
  by_cases hlt:i < n
  ·have d2:decide ((i:Int) < (n:Int))=true:=decide_eq_true (by omega)
   have hr:=ih (i+1) hlt (by omega)
   have e1:((i+1:Nat):Int)=(i:Int)+1:=by omega
   have e2:(k:Int)=((k+1:Nat):Int) - 1:=by omega
   rw [e1,e2] at hr
   have hO:=CX (k:=k) hi.1 hi.2 hn
   have hO1:=CX (k:=k) (a:=a) (i:=i+1) (by omega) hlt hn
   have hRl:∀ l ∈ bF k (i+1) (n - (i+1)),l.length≤1000:=fun l hl=>by
    obtain ⟨p,_,g⟩:=(mV _ _ _ _).1 hl
    omega
   have hs:=zc (k:=k) (n:=n) hi.1
   generalize bF k (i+1) (n - (i+1))=R at *
   rw [hs,List.length_append,List.length_map] at hO1
   repeat' (first |refine u1 ?_ |refine u2 ?_ |fail)
   generalize hOd:nN k n a i=O at *
   refine ax.aK (ah.to (l:=[(1,ai (n:Nat)),(2,ai ((k+1:Nat):Int)),(7,.bg 0 ver 0 (O++(R.take ((0:Nat))).map fun l=>(i:Int) :: l).length c),(8,ai (i:Nat)),(9,.sl (R.map w6) false),(10,ai (((0:Nat)):Nat))]) (hp:=[.cells ((O++(R.take 0).map fun l=>(i:Int) :: l).map nM) 1 ver]) 1 (by rw [List.take_zero,List.map_nil,List.append_nil];rfl) ⟨rfl,rfl,(by rw [List.take_zero,List.map_nil,List.append_nil];rfl),rfl,rfl,rfl,trivial⟩ (Nat.zero_le _) rfl (vm _ _)) ?_
   have er:((R.map w6).length:Int)=R.length:=by simp
   refine ax.loop (fun x:Nat × Nat × Nat=>x.1≤R.length∧(x.2.2=(O++(R.take x.1).map fun l=>(i:Int) :: l).length∨x.2.2=(O++(R.take x.1).map fun l=>(i:Int) :: l).length+1)) (fun x=>⟨aF [(1,ai (n:Nat)),(2,ai ((k+1:Nat):Int)),(7,.bg 0 x.2.1 0 (O++(R.take x.1).map fun l=>(i:Int) :: l).length x.2.2),(8,ai (i:Nat)),(9,.sl (R.map w6) false),(10,ai (x.1:Nat))],[.cells ((O++(R.take x.1).map fun l=>(i:Int) :: l).map nM) 1 x.2.1],aV.none,false,0⟩) (fun x=>R.length - x.1) ?_ (0,ver,c) ⟨Nat.zero_le _,by simpa using hcap⟩
   rintro ⟨j,v,c⟩ ⟨hj,hcap⟩
   dsimp only at hj hcap
   show ax _ _ _ _ ⟨aF [(1,ai (n:Nat)),(2,ai ((k+1:Nat):Int)),(7,.bg 0 v 0 (O++(R.take j).map fun l=>(i:Int) :: l).length c),(8,ai (i:Nat)),(9,.sl (R.map w6) false),(10,ai (j:Nat))],[.cells ((O++(R.take j).map fun l=>(i:Int) :: l).map nM) 1 v],aV.none,false,0⟩ _
   refine aa (mu:=fun t=>Nat.beq t 41) ?_
   by_cases hlj:j < R.length
   ·have d3:decide ((j:Int) < ((R.map w6).length:Int))=true:=decide_eq_true (by omega)
    have hat:(R.map w6)[((j:Nat):Int).toNat]?=some (w6 R[j]):=bO hlj
    have hrl:=hRl _ (List.getElem_mem hlj)
    have hte:=eN (List.getElem?_eq_getElem hlj)
    have hW:O++(R.take (j+1)).map (fun l=>(i:Int) :: l)=(O++(R.take j).map fun l=>(i:Int) :: l)++[(i:Int) :: R[j]]:=by
     rw [hte,List.map_append,List.append_assoc];rfl
    have hWl:(O++(R.take j).map fun l=>(i:Int) :: l).length≤256:=by
     rw [List.length_append,List.length_map,List.length_take];omega
    generalize (O++(R.take j).map fun l=>(i:Int) :: l)=W at *
    generalize R[j]=r at *
    have hf3:(W.map nM).length=W.length * 1:=by rw [List.length_map];omega
    repeat' (first |((with_reducible show cV _ _ _ _ _ _ _);refine RM.MQ rfl rfl rfl rfl (Lz _) rfl (Ly _) ?_) |((with_reducible show force _ _);refine vn ?_) |((with_reducible show RM.wpOp _ _ (.call _) _ _ _);refine MH rfl rfl hrl ?_) |((with_reducible show RM.wpOp _ _ (.call _) _ _ _);refine RM.qJ (cs:=W.map nM) (n:=W.length) (els:=[w6 ((i:Int) :: r)]) (f:=true) rfl (by show AV.sl [(nM ((i:Int) :: r)).cells] true=_;rw [Gy]) rfl rfl rfl (fun el hel=>by rw [List.mem_singleton.1 hel];rfl) (by show (AV.one (nM ((i:Int) :: r)) && true)=true;rw [Ke];rfl) rfl hf3 hcap (by simp only [List.length_singleton];omega) (fun v' c' hc'=>?_)) |refine u1 ?_ |refine u2 ?_ |fail)
    refine ⟨(j+1,v',c'),⟨hlj,by dsimp only;rw [hW,List.length_append];exact hc'⟩,(by dsimp only;omega),?_⟩
    show ah _ ⟨aF [(1,ai (n:Nat)),(2,ai ((k+1:Nat):Int)),(7,.bg 0 v' 0 (O++(R.take (j+1)).map fun l=>(i:Int) :: l).length c'),(8,ai (i:Nat)),(9,.sl (R.map w6) false),(10,ai ((j+1):Nat))],[.cells ((O++(R.take (j+1)).map fun l=>(i:Int) :: l).map nM) 1 v'],aV.none,false,0⟩
    rw [hW]
    exact ah.to 1 (by rw [List.map_append];rfl) ⟨rfl,rfl,(by rw [List.length_append];rfl),rfl,rfl,aR (by simp),trivial⟩ (Nat.zero_le _) rfl (vm _ _)
   ·have d3:decide ((j:Int) < ((R.map w6).length:Int))=false:=decide_eq_false (by omega)
    have hjn:j=R.length:=by omega
    subst hjn
    rw [List.take_length] at hcap ⊢
    rw [←hs] at hcap ⊢
    repeat' (first |refine u1 ?_ |refine u2 ?_ |fail)
    refine ⟨(i+1,v,c),⟨⟨by dsimp only;omega,hlt⟩,hcap⟩,(by dsimp only;omega),?_⟩
    exact ah.to 1 rfl ⟨rfl,rfl,rfl,aR (by simp),trivial⟩ (Nat.zero_le _) rfl (vm _ _)
  ·have d2:decide ((i:Int) < (n:Int))=false:=decide_eq_false (by omega)
   have hin:i=n:=by omega
   subst hin
   repeat' (first |refine u1 ?_ |refine u2 ?_ |fail)
   exact ⟨[_],⟨IK rfl rfl,trivial⟩,rfl⟩
end Go.Proofs.YtichbhmnhkegiaaGreat
open Go Go.RM Go.AirLaw
namespace Go.Proofs.YtichbhmnhkegiaaGreat
set_option maxRecDepth 100000
set_option maxHeartbeats 4000000
theorem zf:∀ {a b:List AV},bP a=true→bP b=true→bP (a++b)=true
 | [],_,_,h=>h
 | x :: a,b,h,k=>by
  simp only [bP,Bool.and_eq_true] at h
  show (x.deep && bP (a++b))=true
  rw [h.1,zf h.2 k];rfl
theorem CY {n:Nat}:∀ {a b:List AV},iM n a=true→iM n b=true→iM n (a++b)=true
 | [],_,_,h=>h
 | x :: a,b,h,k=>by
  simp only [iM,Bool.and_eq_true] at h
  show (x.cJ n && iM n (a++b))=true
  rw [h.1,CY h.2 k];rfl
abbrev eV (L:List av):List AV:=(L.map aj).flatten
theorem iU:∀ L:List av,(eV L).length=L.length * 4
 | []=>rfl
 | a :: l=>by
  show (aj a++eV l).length=_
  rw [List.length_append,iU l]
  show 4+l.length * 4=(l.length+1) * 4
  omega
theorem kU (L:List av) (a:av):eV (L++[a])=eV L++[aj a].flatten:=by
 show ((L++[a]).map aj).flatten=_
 rw [List.map_append,List.flatten_append];rfl
theorem w7:∀ L:List av,bP (eV L)=true
 | []=>rfl
 | _ :: l=>zf (by rfl) (w7 l)
theorem zg (n:Nat):∀ L:List av,iM n (eV L)=true
 | []=>rfl
 | _ :: l=>CY (by rfl) (zg n l)
theorem nO (L:List av) (v:Nat):([.cells (eV L) 4 v]:List AB).all (AB.cJ 1)=true:=by
 have h:AB.cJ 1 (.cells (eV L) 4 v)=true:=zg 1 L
 simp only [List.all_cons,List.all_nil,h,Bool.and_true]
theorem sV {hp:List AB} {j v c n:Nat} {L:List av} (h:hp[j]?=some (.cells (eV L) 4 v)) (hn:L.length=n):Fz hp (.bg j v 0 n c) (.sl (L.map aj) false) :=
 Fz.row (es:=4) h (by rw [iU];omega) (by simp;omega) (fun el hel=>by obtain ⟨x,_,rfl⟩:=List.mem_map.1 hel;rfl) (by rw [List.drop_zero,List.take_of_length_le (by rw [iU];omega)]) (w7 _) (fun h=>Bool.noConfusion h)
def aT:Nat→List av→List Int→List av
 | _,[],_=>[]
 | i,r :: rs,[]=>r :: aT (i+1) rs []
 | i,r :: rs,x :: o=>if x=(i:Int) then aT (i+1) rs o else r :: aT (i+1) rs (x :: o)
theorem jo (i:Nat) (o:List Int):aT i [] o=[]:=by rw [aT]
theorem oW (q:Nat→Bool) (r:av):∀ (rs:List av) (a:Nat),r ∈ aT a rs (aO q a rs.length) ↔ ∃ i,rs[i]?=some r∧q (a+i)=false
 | [],a=>by
  rw [jo]
  exact ⟨fun h=>(by cases h),fun ⟨i,h,_⟩=>(by cases h)⟩
 | x :: rs,a=>by
  have ih:=oW q r rs (a+1)
  have hs:(∃ i,(x :: rs)[i]?=some r∧q (a+i)=false) ↔ (x=r∧q a=false)∨∃ i,rs[i]?=some r∧q (a+1+i)=false:=by
   constructor
   ·rintro ⟨i,h1,h2⟩
    cases i with
    | zero=>exact .inl ⟨Option.some.inj h1,h2⟩
    | succ i=>exact .inr ⟨i,h1,by rw [show a+1+i=a+(i+1) by omega];exact h2⟩
   ·rintro (⟨h1,h2⟩|⟨i,h1,h2⟩)
    ·exact ⟨0,by rw [h1];rfl,h2⟩
    ·exact ⟨i+1,h1,by rw [show a+(i+1)=a+1+i by omega];exact h2⟩
  rw [hs,←ih]
  cases hq:q a with
  | true =>
   rw [List.length_cons,oE hq,aT,if_pos rfl]
   exact ⟨fun h=>.inr h,fun h=>h.elim (fun h=>by cases h.2) id⟩
  | false =>
   rw [List.length_cons,oF hq]
   have hg:aT a (x :: rs) (aO q (a+1) rs.length)=x :: aT (a+1) rs (aO q (a+1) rs.length):=by
    cases hl:aO q (a+1) rs.length with
    | nil=>rw [aT]
    | cons y l =>
     have hm:y ∈ aO q (a+1) rs.length:=by rw [hl];exact List.mem_cons_self
     obtain ⟨i,rfl,h1,_⟩:=pN.1 hm
     rw [aT,if_neg (by omega)]
   rw [hg,List.mem_cons]
   exact ⟨fun h=>h.elim (fun h=>.inl ⟨h.symm,rfl⟩) .inr,fun h=>h.elim (fun h=>.inl h.1.symm) .inr⟩
theorem jq {r:av}:∀ {rs:List av} {a:Nat} {o:List Int},r ∈ aT a rs o→r ∈ rs
 | [],a,o,h=>by rw [jo] at h;cases h
 | x :: rs,a,[],h=>by
  rw [aT,List.mem_cons] at h
  exact h.elim (fun h=>by rw [h];exact List.mem_cons_self) fun h=>List.mem_cons_of_mem _ (jq h)
 | x :: rs,a,y :: o,h=>by
  rw [aT] at h
  split at h
  ·exact List.mem_cons_of_mem _ (jq h)
  ·rw [List.mem_cons] at h
   exact h.elim (fun h=>by rw [h];exact List.mem_cons_self) fun h=>List.mem_cons_of_mem _ (jq h)
theorem lN:∀ (rs:List av) (a:Nat) (o:List Int),(aT a rs o).length≤rs.length
 | [],a,o=>by rw [jo];exact Nat.le_refl _
 | x :: rs,a,[]=>by rw [aT];exact Nat.succ_le_succ (lN rs _ _)
 | x :: rs,a,y :: o=>by
  rw [aT]
  split
  ·exact Nat.le_succ_of_le (lN rs _ _)
  ·exact Nat.succ_le_succ (lN rs _ _)
theorem zh (one:Bool) (rs:List av) (f:Bool) (out:List Int) (g:Bool) (hr:rs.length≤1000) (ho:out.length≤1000):Pu one 59 [.sl (rs.map aj) f,.sl (out.map eI) g] (.sl ((aT 0 rs out).map aj) false):=by
 have er:((rs.map aj).length:Int)=rs.length:=by simp
 have eo:((out.map eI).length:Int)=out.length:=by simp
 generalize hTd:aT 0 rs out=T
 refine af.body (fn:=Tryz.f59) rfl rfl rfl rfl ?_
 refine aa (mu:=fun _=>false) ?_
 repeat' (first |refine u1 ?_ |refine u2 ?_ |fail)
 refine ax.aK (ah.trans (ah.jw 4) (ah.GI (l:=[(0,.sl (rs.map aj) f),(1,.sl (out.map eI) g),(5,.bg 0 0 0 (List.length ([]:List av)) 0),(6,ai (0:Nat)),(7,ai (0:Nat))]) (hp:=[.cells (eV []) 4 0]) 1 rfl ⟨bG.refl _,bG.refl _,bG.jv,bG.refl _,bG.refl _,trivial⟩ (Nat.zero_le _) rfl (nO _ _))) ?_
 refine ax.loop (fun x:Nat × Nat × Nat × Nat × List av=>(x.1≤rs.length∧x.2.1≤out.length)∧x.2.2.2.2.length≤x.1∧x.2.2.2.2++aT x.1 (rs.drop x.1) (out.drop x.2.1)=T∧(x.2.2.2.1=x.2.2.2.2.length∨x.2.2.2.1=x.2.2.2.2.length+1)) (fun x=>⟨aF [(0,.sl (rs.map aj) f),(1,.sl (out.map eI) g),(5,.bg 0 x.2.2.1 0 (List.length x.2.2.2.2) x.2.2.2.1),(6,ai (x.2.1:Nat)),(7,ai (x.1:Nat))],[.cells (eV x.2.2.2.2) 4 x.2.2.1],aV.none,false,0⟩) (fun x=>rs.length - x.1) ?_ (0,0,0,0,[]) ⟨⟨Nat.zero_le _,Nat.zero_le _⟩,Nat.le_refl _,hTd,.inl rfl⟩
 rintro ⟨i,k,v,c,W⟩ ⟨⟨hi,hkn⟩,hWl,hT,hcap⟩
 dsimp only at hi hkn hWl hT hcap
 show ax _ _ _ _ ⟨aF [(0,.sl (rs.map aj) f),(1,.sl (out.map eI) g),(5,.bg 0 v 0 (List.length W) c),(6,ai (k:Nat)),(7,ai (i:Nat))],[.cells (eV W) 4 v],aV.none,false,0⟩ _
 refine aa (mu:=fun t=>Nat.beq t 34) ?_
 by_cases hlt:i < rs.length
 ·have d1:decide ((i:Int) < ((rs.map aj).length:Int))=true:=decide_eq_true (by omega)
  have hat:(rs.map aj)[((i:Nat):Int).toNat]?=some (aj rs[i]):=bO hlt
  rw [List.drop_eq_getElem_cons hlt] at hT
  generalize rs[i]=r at *
  by_cases hk:k < out.length
  ·have d2:decide ((k:Int) < ((out.map eI).length:Int))=true:=decide_eq_true (by omega)
   have hat2:(out.map eI)[((k:Nat):Int).toNat]?=some (eI out[k]):=bO hk
   rw [List.drop_eq_getElem_cons hk,aT,←List.drop_eq_getElem_cons hk] at hT
   generalize out[k]=y at *
   by_cases hy:y=(i:Int)
   ·have d3:decide (y=(i:Int))=true:=decide_eq_true hy
    rw [if_pos hy] at hT
    repeat' (first |refine u1 ?_ |refine u2 ?_ |fail)
    refine ⟨(i+1,k+1,v,c,W),⟨⟨hlt,hk⟩,by dsimp only;omega,hT,hcap⟩,(by dsimp only;omega),?_⟩
    exact ah.to 1 rfl ⟨rfl,rfl,rfl,aR (by simp),aR (by simp),trivial⟩ (Nat.zero_le _) rfl (nO _ _)
   ·have d3:decide (y=(i:Int))=false:=decide_eq_false hy
    rw [if_neg hy] at hT
    repeat' (first |((with_reducible show RM.wpOp _ _ (.call _) _ _ _);refine RM.qJ (cs:=eV W) (n:=W.length) (els:=[aj r]) rfl rfl rfl rfl rfl (fun el hel=>by rw [List.mem_singleton.1 hel];rfl) rfl rfl (iU W) hcap (by simp only [List.length_singleton];omega) (fun v' c' hc'=>?_)) |refine u1 ?_ |refine u2 ?_ |fail)
    refine ⟨(i+1,k,v',c',W++[r]),⟨⟨hlt,hkn⟩,by rw [List.length_append,List.length_singleton];omega,by rw [List.append_assoc];exact hT,by dsimp only;rw [List.length_append];exact hc'⟩,(by dsimp only;omega),?_⟩
    exact ah.to 1 (by rw [kU];rfl) ⟨rfl,rfl,(by rw [List.length_append];rfl),rfl,aR (by simp),trivial⟩ (Nat.zero_le _) rfl (nO _ _)
  ·have d2:decide ((k:Int) < ((out.map eI).length:Int))=false:=decide_eq_false (by omega)
   rw [show out.drop k=[] from List.drop_eq_nil_of_le (by omega),aT] at hT
   have hT:W++r :: aT (i+1) (rs.drop (i+1)) (out.drop k)=T:=by rw [show out.drop k=[] from List.drop_eq_nil_of_le (by omega)];exact hT
   repeat' (first |((with_reducible show RM.wpOp _ _ (.call _) _ _ _);refine RM.qJ (cs:=eV W) (n:=W.length) (els:=[aj r]) rfl rfl rfl rfl rfl (fun el hel=>by rw [List.mem_singleton.1 hel];rfl) rfl rfl (iU W) hcap (by simp only [List.length_singleton];omega) (fun v' c' hc'=>?_)) |refine u1 ?_ |refine u2 ?_ |fail)
   refine ⟨(i+1,k,v',c',W++[r]),⟨⟨hlt,hkn⟩,by rw [List.length_append,List.length_singleton];omega,by rw [List.append_assoc];exact hT,by dsimp only;rw [List.length_append];exact hc'⟩,(by dsimp only;omega),?_⟩
   exact ah.to 1 (by rw [kU];rfl) ⟨rfl,rfl,(by rw [List.length_append];rfl),rfl,aR (by simp),trivial⟩ (Nat.zero_le _) rfl (nO _ _)
 ·have d1:decide ((i:Int) < ((rs.map aj).length:Int))=false:=decide_eq_false (by omega)
  rw [show rs.drop i=[] from List.drop_eq_nil_of_le (by omega),jo,List.append_nil] at hT
  subst hT
  repeat' (first |refine u1 ?_ |refine u2 ?_ |fail)
  exact ⟨[_],⟨sV rfl rfl,trivial⟩,rfl⟩
theorem Ki (one:Bool) {s:au} {n:aA} {rs0 rs:List av} (ho:jW s n rs0) (hn:Ii n rs) (hr:rs.length≤maxLen) (f:Bool) (aB:Bool) :
  Pu one 105 [.ag (ay s),.ag (aC n),.sl (rs.map aj) f,BB aB] (BB ((oa s n aB).any fun x=>rs.all (sQ aB n x))):=by
 have hal:=Ij one ho aB
 have hlen:=jQ ho aB
 have hag:=fun x (hx:x ∈ oa s n aB)=>y4 true n rs f x aB hn hr (ho.LL hx)
 generalize oa s n aB=A at *
 have ea:((A.map eP).length:Int)=A.length:=by simp
 generalize hqd:(fun x=>rs.all (sQ aB n x))=q at *
 have hag:∀ x ∈ A,Pu true 108 [.ag (aC n),.sl (rs.map aj) f,.ag (eP x),BB aB] (BB (q x)):=by subst hqd;exact hag
 clear hqd
 generalize hB:A.any q=B
 refine af.body (fn:=Tryz.f105) rfl rfl rfl rfl ?_
 refine aa (mu:=fun _=>false) ?_
 repeat' (first |refine u1 ?_ |refine u2 ?_ |fail)
 refine ax.aK (ah.to (l:=[(2,.sl (rs.map aj) f),(3,BB aB),(5,.pt (aC n) 0),(9,.sl (A.map eP) false),(10,ai ((0:Nat):Int))]) (hp:=[]) 0 rfl ⟨rfl,rfl,rfl,rfl,rfl,trivial⟩ (Nat.zero_le _) rfl rfl) ?_
 refine ax.loop (fun i:Nat=>i≤A.length∧∀ j (h:j < A.length),j < i→q A[j]=false) (fun i=>⟨aF [(2,.sl (rs.map aj) f),(3,BB aB),(5,.pt (aC n) 0),(9,.sl (A.map eP) false),(10,ai (i:Nat))],[],aV.none,false,0⟩) (fun i=>A.length - i) ?_ 0 ⟨Nat.zero_le _,fun _ _ h=>absurd h (Nat.not_lt_zero _)⟩
 rintro i ⟨hi,hprev⟩
 refine aa (mu:=fun _=>false) ?_
 by_cases hlt:i < A.length
 ·have d1:decide ((i:Int) < ((A.map eP).length:Int))=true:=decide_eq_true (by omega)
  have hat:(A.map eP)[((i:Nat):Int).toNat]?=some (eP A[i]):=bO hlt
  have hq:=hag A[i] (List.getElem_mem hlt)
  have hnext:q A[i]=false→∀ j (h:j < A.length),j < i+1→q A[j]=false:=fun hh j hj hji=>by
   by_cases e:j=i
   ·subst e;exact hh
   ·exact hprev j hj (by omega)
  have hyes:q A[i]=true→B=true:=fun h=>by rw [←hB,List.any_eq_true];exact ⟨_,List.getElem_mem hlt,h⟩
  clear hB
  generalize A[i]=y at *
  cases hqy:q y with
  | true =>
   rw [hqy] at hq
   rw [hyes hqy]
   repeat' (first |refine u1 ?_ |refine u2 ?_ |fail)
   exact ⟨[_],⟨Fz.deep rfl,trivial⟩,rfl⟩
  | false =>
   rw [hqy] at hq
   repeat' (first |refine u1 ?_ |refine u2 ?_ |fail)
   exact ⟨i+1,⟨hlt,hnext hqy⟩,(by dsimp only;omega),ah.to 0 rfl ⟨rfl,rfl,rfl,rfl,aR (by simp),trivial⟩ (Nat.zero_le _) rfl rfl⟩
 ·have d1:decide ((i:Int) < ((A.map eP).length:Int))=false:=decide_eq_false (by omega)
  have hno:B=false:=by
   rw [←hB,List.any_eq_false]
   intro x hx
   obtain ⟨j,hj,rfl⟩:=List.getElem_of_mem hx
   rw [hprev j hj (by omega)]
   decide
  rw [hno]
  repeat' (first |refine u1 ?_ |refine u2 ?_ |fail)
  exact ⟨[_],⟨Fz.deep rfl,trivial⟩,rfl⟩
end Go.Proofs.YtichbhmnhkegiaaGreat
