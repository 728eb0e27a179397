/-
  Contracts of the program's functions and of the document's. Lemmas alone; their conditions stand in them.
-/
import Derived.Test.YtlpmfgmldmdggaaGreatK21
open Go Go.RM
namespace Go.Proofs.YtlpmfgmldmdggaaGreat
set_option maxRecDepth 100000
set_option maxHeartbeats 4000000
def bN:zY→Int
 | none=>0
 | some y=>y.2
def bR (tn:Nat):zY→List Int
 | none=>List.replicate tn 0
 | some y=>nI y.1
def Of (tn:Nat) (o:zY):Prop:=∀ y,o=some y→y.1.length=tn
abbrev hA (tn:Nat) (o:zY):List AB:=[.cells [af (bN o)] 0 0,.gone,.cells (ay (bR tn o)) 1 0,.cells [.aJ 2 0 0 tn tn] 0 0,.cells [BB o.isSome] 0 0]
theorem JT (tn:Nat) (o:zY):(hA tn o).all DY=true:=by
 have h1:DY (.cells (ay (bR tn o)) 1 0)=true:=by show (ay (bR tn o)).all NG=true;rw [List.all_map,List.all_eq_true];intro x _;rfl
 simp only [List.all_cons,List.all_nil,h1,Bool.true_and,Bool.and_true];rfl
theorem Dj (tn:Nat) (o:zY):(hA tn o).all (AB.ig 5)=true:=by have h1:AB.ig 5 (.cells (ay (bR tn o)) 1 0)=true:=fG 5 (fun _=>rfl) _;simp only [List.all_cons,List.all_nil,h1,Bool.true_and,Bool.and_true];rfl
def oI (c:aL) (p:bE) (X:List (List Nat)) (i:Nat):zY:=(BU c p (X.take i)).foldl uD none
theorem Eg {c:aL} {p:bE} {X:List (List Nat)} {i:Nat} {t:List Nat} (h:X[i]?=some t):oI c p X (i+1)=uD (oI c p X i) (t,jn c p t):=by unfold oI BU;rw [List.take_add_one,h,List.map_append,List.foldl_append];rfl
theorem H9 {c:aL} {p:bE} {X:List (List Nat)} {tn:Nat} (h:∀ t ∈ X,t.length=tn):∀ i,Of tn (oI c p X i)
 | 0=>fun y hy=>by cases hy
 | i+1=>by
  cases hx:X[i]? with
  | none =>
   have e:oI c p X (i+1)=oI c p X i:=by unfold oI;rw [List.take_add_one,hx];show (BU c p (List.take i X++[])).foldl uD none=_;rw [List.append_nil]
   rw [e];exact H9 h i
  | some t =>
   rw [Eg hx];intro y hy;have ht:=h t (List.mem_of_getElem? hx);have ih:=H9 (c:=c) (p:=p) h i
   generalize oI c p X i=o at *
   cases o with
   | none=>cases hy;exact ht
   | some w =>
    unfold uD at hy;dsimp only at hy;split at hy
    ·cases hy;exact ht
    ·cases hy;exact ih _ rfl
theorem yI (l:List Int):((ints l).flatten).all AV.one=true:=by rw [eE,List.all_map,List.all_eq_true];intro x _;rfl
theorem w5 {W:List Int} {t:List Nat} (h:W.length=t.length):aQ (ay W) (ints (nI t)).flatten 0=ay (nI t):=by rw [eE];unfold aQ;rw [List.take_zero,List.nil_append,List.drop_of_length_le (by rw [List.length_map,List.length_map,List.length_map];omega),List.append_nil]
theorem Ia (n:Int) (W:List Int) (tn:Nat) (L:List (List Int)) (v:Nat):([.cells [af n] 0 0,.gone,.cells (ay W) 1 0,.cells [.aJ 2 0 0 tn tn] 0 0,.cells [BB true] 0 0,.cells (dH L) 1 v]:List AB).all (AB.ig 6)=true:=by have h1:AB.ig 6 (.cells (ay W) 1 0)=true:=fG 6 (fun _=>rfl) _;have h2:AB.ig 6 (.cells (dH L) 1 v)=true:=fG 6 (fun _=>rfl) _;simp only [List.all_cons,List.all_nil,h1,h2,Bool.true_and,Bool.and_true];rfl
theorem oU (one:Bool) (c:aL) (h:c.Ok) (p:bE):Pu one 33 [.ag (aI c),.ag (cV p)] (Jr c p):=by
 unfold Jr;by_cases he:kJ c p=0
 ·have o1:=BP one c h p he;obtain ⟨hg,hp⟩:=pU he;rw [if_pos he];have o2:=M0 one c hg p hp;have om:=fun t f h32 hl=>Lu one c hg p hp t f h32 hl;have h16:=D2 hg hp;have hS32:l6 (iz c p.aR):=fun a ha=>s8 hg ha;have hal:=og hg hp p.turns.toNat (pre:=[]) (fun x hx=>by cases hx);obtain ⟨t0,n0,hff⟩:=wR hg hp p.turns.toNat (pre:=[]) (fun x hx=>by cases hx);have hfv:jA c p=(t0,n0):=by unfold jA;rw [hff.eq];rfl
  unfold kH;rw [hfv];obtain ⟨tn,htn⟩:∃ tn:Nat,p.turns=tn:=⟨p.turns.toNat,by have:=hp.turns;omega⟩;have htt:p.turns.toNat=tn:=by omega
  have h4:1≤tn∧tn≤4:=by have:=hp.turns;omega
  have hfe:=hff.eq;have hfm:=hff.mem;clear hff hfv;rw [htt] at hal hfe hfm;have hgen:=M1 one c p htn h4 hS32 h16;have hXl:=fun t ht=>z4 hS32 tn [] (fun x hx=>by cases hx) t ht
  generalize iz c p.aR=S at *
  generalize hX:jz S tn []=X at *
  have hol:oI c p X X.length=some (t0,n0):=by unfold oI;rw [List.take_length,←hal,hfe]
  have ht0:=(hXl t0 hfm).2;have ht32:=(hXl t0 hfm).1;unfold LQ gS at o2 hgen;unfold gS at om;unfold KY at o1
  generalize bD c 0 c.aD.length=m0 at *
  generalize bD c 1 c.aD.length=m1 at *
  generalize bD c 2 c.aD.length=m2 at *
  obtain ⟨tu,d,aw⟩:=p;obtain ⟨p1,p2,p3⟩:=hp;dsimp only at htn p1 p2 p3;subst htn;change Pu one 75 [.ag (aI c),.ag [af (tn:Nat),af d,af aw]] (.tp [.ag [.sl (c.aC.map aT) false,.sl (c.aD.map aZ) false,af c.least,af (tn:Nat),af d,af aw,af (m0:Nat),af (m1:Nat),af (m2:Nat)],af 0]) at o1;change Pu one 82 [.ag [.sl (c.aC.map aT) false,.sl (c.aD.map aZ) false,af c.least,af (tn:Nat),af d,af aw,af (m0:Nat),af (m1:Nat),af (m2:Nat)]] (.fn 114 [] [.pt [.sl (c.aC.map aT) false,.sl (c.aD.map aZ) false,af c.least,af (tn:Nat),af d,af aw,af (m0:Nat),af (m1:Nat),af (m2:Nat)] 0,.pt [.sl (ints (nI S)) false] 0]) at o2;change Fj TT TB one (.fn 114 [] [.pt [.sl (c.aC.map aT) false,.sl (c.aD.map aZ) false,af c.least,af (tn:Nat),af d,af aw,af (m0:Nat),af (m1:Nat),af (m2:Nat)] 0,.pt [.sl (ints (nI S)) false] 0]) _ at hgen;change ∀ (t:List Nat) (f:Bool),l6 t→(t.length:Int)≤(tn:Int)→Pu one 83 [.ag [.sl (c.aC.map aT) false,.sl (c.aD.map aZ) false,af c.least,af (tn:Nat),af d,af aw,af (m0:Nat),af (m1:Nat),af (m2:Nat)],.sl (ints (nI t)) f] (af (jn c (⟨(tn:Int),d,aw⟩:bE) t)) at om;have d0:(!decide ((0:Int)=0))=false:=by decide
  show Pu one 33 [.ag (aI c),.ag [af (tn:Nat),af d,af aw]] _;refine ak.body (fn:=Tryz.f33) rfl rfl rfl rfl ?_;refine RM.i4 (mu:=fun t=>Nat.beq t 53) ?_;repeat' first|refine u1 ?_|refine u2 ?_|fail
  refine RM.i4 (mu:=fun t=>Nat.beq t 53) ?_;repeat' first|refine u1 ?_|((with_reducible refine qq3 ?_);refine ak.call o1 rfl rfl ?_)|refine u2 ?_|fail
  refine aB.aO (ah.giveUp 1 (l:=[(3,.pt [af (tn:Nat),af d,af aw] 0),(4,.fl (.slice none 0 0)),(5,.ptr 0 0 0),(6,af 0),(7,.pt [.sl (c.aC.map aT) false,.sl (c.aD.map aZ) false,af c.least,af (tn:Nat),af d,af aw,af (m0:Nat),af (m1:Nat),af (m2:Nat)] 0)]) (hp:=[.cells [af 0] 0 0,.gone]) rfl (qq5 _) rfl ⟨.same rfl,.same rfl,.same rfl,.same rfl,.ptr,trivial⟩ rfl rfl) ?_;refine RM.cutAt (st':=⟨aM [(3,.pt [af (tn:Nat),af d,af aw] 0),(4,.fl (.slice none 0 0)),(5,.ptr 0 0 0),(6,af 0),(7,.pt [.sl (c.aC.map aT) false,.sl (c.aD.map aZ) false,af c.least,af (tn:Nat),af d,af aw,af (m0:Nat),af (m1:Nat),af (m2:Nat)] 0)],[.cells [af 0] 0 0,.gone],bq.none,false,0⟩) ?_ ?_
  ·refine aa (mu:=fun t=>Nat.beq t 53) ?_;repeat' first|refine u1 ?_|refine u2 ?_|fail
   exact .is (ah.to 2 rfl ⟨rfl,rfl,rfl,rfl,rfl,trivial⟩ (qq5 _) rfl rfl)
  refine RM.i4 (mu:=fun t=>Nat.beq t 53) ?_;repeat' first|refine u1 ?_|(refine RM.NA (n:=tn) rfl rfl rfl ⟨by show 8 * tn≤_;omega,by omega⟩ rfl ?_)|refine u2 ?_|fail
  refine RM.i4 (mu:=fun t=>Nat.beq t 53) ?_;repeat' first|refine u1 ?_|refine u2 ?_|fail
  refine aB.seq ?_;refine RM.i4 (mu:=fun t=>Nat.beq t 53) ?_;repeat' first|refine u1 ?_|((with_reducible refine qq3 ?_);refine ak.call o2 rfl rfl ?_)|refine u2 ?_|fail
  refine aB.aO (ah.to (l:=[(3,.pt [af (tn:Nat),af d,af aw] 0),(4,.fl (.slice none 0 0)),(5,.ptr 0 0 0),(6,af 0),(7,.pt [.sl (c.aC.map aT) false,.sl (c.aD.map aZ) false,af c.least,af (tn:Nat),af d,af aw,af (m0:Nat),af (m1:Nat),af (m2:Nat)] 0),(8,.ptr 3 0 0),(9,.ptr 4 0 0),(27,(.fn 114 [] [.pt [.sl (c.aC.map aT) false,.sl (c.aD.map aZ) false,af c.least,af (tn:Nat),af d,af aw,af (m0:Nat),af (m1:Nat),af (m2:Nat)] 0,.pt [.sl (ints (nI S)) false] 0]))]) (hp:=hA tn none) 5 ?_ ⟨rfl,rfl,rfl,rfl,rfl,rfl,rfl,rfl,trivial⟩ (qq5 _) rfl (Dj _ _)) ?_
  ·obtain e|e|e|e:tn=1∨tn=2∨tn=3∨tn=4:=by omega
   all_goals (subst e;rfl)
  refine aB.block ?_;refine aB.K4 (fun i=>hA tn (oI c (⟨(tn:Int),d,aw⟩:bE) X i)) (fun _=>bq.none) (fun _=>True) rfl hgen (fun i=>JT _ _) rfl rfl trivial (fun i x hx _=>?_) (fun _=>?_)
  ·obtain ⟨t,hXt,rfl⟩:∃ t,X[i]?=some t∧x=[.sl (ints (nI t)) false]:=by rw [List.getElem?_map,Option.map_eq_some_iff] at hx;obtain ⟨y,h1,h2⟩:=hx;exact ⟨y,h1,h2.symm⟩
   obtain ⟨ht32,htl⟩:=hXl t (List.mem_of_getElem? hXt);rw [List.length_nil,Nat.zero_add] at htl;have om:=om t false ht32 (by omega);have hok:=H9 (c:=c) (p:=(⟨(tn:Int),d,aw⟩:bE)) (fun t ht=>by have:=(hXl t ht).2;rw [List.length_nil,Nat.zero_add] at this;exact this) i;refine ⟨rfl,?_⟩;rw [Eg hXt]
   generalize oI c (⟨(tn:Int),d,aw⟩:bE) X i=o at *
   cases o with
   | none =>
    have htl':(ints (nI t)).length=tn:=by rw [List.length_map,List.length_map];exact htl
    have hlr:(List.replicate tn (0:Int)).length=tn:=List.length_replicate ..;have hcl:0 < (ay (List.replicate tn (0:Int))).length:=by rw [List.length_map];omega
    have hcl2:0+tn * 1≤(ay (List.replicate tn (0:Int))).length:=by rw [List.length_map];omega
    have hsp:=w5 (W:=List.replicate tn (0:Int)) (t:=t) (by omega);refine aa (mu:=fun t=>Nat.beq t 53) ?_;repeat' first|refine u1 ?_|refine u2 ?_|fail
    refine aa (mu:=fun t=>Nat.beq t 53) ?_;repeat' first|refine u1 ?_|((with_reducible refine qq3 ?_);refine ak.call om rfl rfl ?_)|(refine RM.MN (els:=ints (nI t)) (cs:=ay (List.replicate tn (0:Int))) rfl rfl rfl (fun el hel=>by obtain ⟨x,_,rfl⟩:=List.mem_map.1 hel;rfl) (yI _) rfl ⟨h4.1,Nat.le_of_eq htl',hcl⟩ hcl2 ?_)|refine u2 ?_|fail
    exact ⟨_,ah.to (l:=[]) (hp:=hA tn (some (t,jn c (⟨(tn:Int),d,aw⟩:bE) t))) 5 (by show _=hA tn (some (t,jn c (⟨(tn:Int),d,aw⟩:bE) t));unfold hA;rw [show bR tn (some (t,jn c (⟨(tn:Int),d,aw⟩:bE) t))=nI t from rfl,←hsp];rfl) trivial (qq6 _) rfl (Dj _ _)⟩
   | some w =>
    obtain ⟨b,n⟩:=w;have hb:b.length=tn:=hok _ rfl;by_cases hlt:jn c (⟨(tn:Int),d,aw⟩:bE) t < n
    ·have d3:decide (jn c (⟨(tn:Int),d,aw⟩:bE) t < n)=true:=decide_eq_true hlt;rw [show uD (some (b,n)) (t,jn c (⟨(tn:Int),d,aw⟩:bE) t)=some (t,jn c (⟨(tn:Int),d,aw⟩:bE) t) from if_pos hlt];have htl':(ints (nI t)).length=tn:=by rw [List.length_map,List.length_map];exact htl
     have hlr:(nI b).length=tn:=by rw [List.length_map];exact hb
     have hcl:0 < (ay (nI b)).length:=by rw [List.length_map];omega
     have hcl2:0+tn * 1≤(ay (nI b)).length:=by rw [List.length_map];omega
     have hsp:=w5 (W:=nI b) (t:=t) (by omega);refine aa (mu:=fun t=>Nat.beq t 53) ?_;repeat' first|refine u1 ?_|refine u2 ?_|fail
     refine aa (mu:=fun t=>Nat.beq t 53) ?_;repeat' first|refine u1 ?_|((with_reducible refine qq3 ?_);refine ak.call om rfl rfl ?_)|(refine RM.MN (els:=ints (nI t)) (cs:=ay (nI b)) rfl rfl rfl (fun el hel=>by obtain ⟨x,_,rfl⟩:=List.mem_map.1 hel;rfl) (yI _) rfl ⟨h4.1,Nat.le_of_eq htl',hcl⟩ hcl2 ?_)|refine u2 ?_|fail
     exact ⟨_,ah.to (l:=[]) (hp:=hA tn (some (t,jn c (⟨(tn:Int),d,aw⟩:bE) t))) 5 (by show _=hA tn (some (t,jn c (⟨(tn:Int),d,aw⟩:bE) t));unfold hA;rw [show bR tn (some (t,jn c (⟨(tn:Int),d,aw⟩:bE) t))=nI t from rfl,←hsp];rfl) trivial (qq6 _) rfl (Dj _ _)⟩
    ·have d3:decide (jn c (⟨(tn:Int),d,aw⟩:bE) t < n)=false:=decide_eq_false hlt;rw [show uD (some (b,n)) (t,jn c (⟨(tn:Int),d,aw⟩:bE) t)=some (b,n) from if_neg hlt];refine aa (mu:=fun t=>Nat.beq t 53) ?_;repeat' first|refine u1 ?_|refine u2 ?_|fail
     refine aa (mu:=fun t=>Nat.beq t 53) ?_;repeat' first|refine u1 ?_|((with_reducible refine qq3 ?_);refine ak.call om rfl rfl ?_)|refine u2 ?_|fail
     exact (ah.refl _).2
  ·rw [List.length_map,hol];repeat' first|refine u1 ?_|refine u2 ?_|fail
   refine aa (mu:=fun t=>Nat.beq t 53) ?_;repeat' first|refine u1 ?_|refine u2 ?_|fail
   refine aB.aO (ah.trans (ah.mZ 1) (ah.IL (l:=[(4,.aJ 5 0 0 0 0),(5,.ptr 0 0 0),(6,af 0),(43,.aJ 2 0 0 tn tn),(44,af (tn:Nat)),(45,af ((0:Nat)))]) (hp:=[.cells [af n0] 0 0,.gone,.cells (ay (nI t0)) 1 0,.cells [.aJ 2 0 0 tn tn] 0 0,.cells [BB true] 0 0,.cells (dH ((t0.map fo).take 0)) 1 0]) 6 rfl ⟨dP.mY,dP.refl _,dP.refl _,dP.refl _,dP.refl _,dP.refl _,trivial⟩ (qq5 _) rfl (Ia _ _ _ _ _))) ?_;have hTl:(t0.map fo).length=tn:=by rw [List.length_map];simpa using ht0
   refine aB.loop (fun x:Nat × Nat × Nat=>x.1≤tn∧(x.2.2=x.1∨x.2.2=x.1+1)) (fun x=>⟨aM [(4,.aJ 5 x.2.1 0 x.1 x.2.2),(5,.ptr 0 0 0),(6,af 0),(43,.aJ 2 0 0 tn tn),(44,af (tn:Nat)),(45,af ((x.1:Nat)))],[.cells [af n0] 0 0,.gone,.cells (ay (nI t0)) 1 0,.cells [.aJ 2 0 0 tn tn] 0 0,.cells [BB true] 0 0,.cells (dH ((t0.map fo).take x.1)) 1 x.2.1],bq.none,false,0⟩) (fun x=>tn - x.1) ?_ (0,0,0) ⟨qq5 _,.inl rfl⟩;rintro ⟨k,v,cc⟩ ⟨hk,hcap⟩;dsimp only at hk hcap;show aB _ _ _ _ ⟨aM [(4,.aJ 5 v 0 k cc),(5,.ptr 0 0 0),(6,af 0),(43,.aJ 2 0 0 tn tn),(44,af (tn:Nat)),(45,af ((k:Nat)))],[.cells [af n0] 0 0,.gone,.cells (ay (nI t0)) 1 0,.cells [.aJ 2 0 0 tn tn] 0 0,.cells [BB true] 0 0,.cells (dH ((t0.map fo).take k)) 1 v],bq.none,false,0⟩ _;by_cases hlt:k < tn
   ·have dl:decide ((k:Int) < (tn:Int))=true:=decide_eq_true (by omega);have hkt:k < t0.length:=by rw [←List.length_map (f:=fo),hTl];exact hlt
    have g1:(ay (nI t0))[0+((k:Nat):Int).toNat * 1]?=some (af ((t0[k]:Nat):Int)):=wK (by rw [List.getElem?_map,List.getElem?_eq_getElem hkt];rfl);have oe:=Ji one t0[k] (ht32 _ (List.getElem_mem hkt));have hsn:(t0.map fo).take (k+1)=(t0.map fo).take k++[fo t0[k]]:=by rw [List.take_add_one,List.getElem?_map,List.getElem?_eq_getElem hkt];rfl
    have hgl:(dH ((t0.map fo).take k)).length=k * 1:=by rw [List.length_map,List.length_take];omega
    generalize t0[k]=a at *
    refine aa (mu:=fun t=>Nat.beq t 53) ?_;repeat' first|refine u1 ?_|((with_reducible show RM.wpOp _ _ (.load _ _) _ _ _);refine RM.bC rfl rfl rfl g1 ?_)|((with_reducible refine qq3 ?_);refine ak.call oe rfl rfl ?_)|((with_reducible show RM.wpOp _ _ (.call _) _ _ _);refine RM.sR (cs:=dH ((t0.map fo).take k)) (n:=k) (els:=[[.sl (ints (fo a)) false]]) rfl rfl rfl rfl rfl (fun el hel=>by rw [List.mem_singleton.1 hel];rfl) rfl rfl hgl hcap (by simp only [List.length_singleton];exact ⟨by show (_+1) * 24≤_;omega,by omega⟩) (fun v' c' hc'=>?_))|refine u2 ?_|fail
    exact ⟨(k+1,v',c'),⟨hlt,hc'⟩,(by dsimp only;omega),ah.to (l:=[(4,.aJ 5 v' 0 (k+1) c'),(5,.ptr 0 0 0),(6,af 0),(43,.aJ 2 0 0 tn tn),(44,af (tn:Nat)),(45,af (((k+1):Nat)))]) (hp:=[.cells [af n0] 0 0,.gone,.cells (ay (nI t0)) 1 0,.cells [.aJ 2 0 0 tn tn] 0 0,.cells [BB true] 0 0,.cells (dH ((t0.map fo).take (k+1))) 1 v']) 6 (by rw [hsn];unfold dH;rw [List.map_append];rfl) ⟨rfl,rfl,rfl,rfl,rfl,aE (by simp),trivial⟩ (qq5 _) rfl (Ia _ _ _ _ _)⟩
   ·have dl:decide ((k:Int) < (tn:Int))=false:=decide_eq_false (by omega);have hkn:k=tn:=by omega
    subst hkn;have hall:(t0.map fo).take k=t0.map fo:=List.take_of_length_le (by omega);rw [hall]
    generalize t0.map fo=T at *
    have hr:=zS T;rw [hTl] at hr;refine aa (mu:=fun t=>Nat.beq t 53) ?_;repeat' first|refine u1 ?_|refine u2 ?_|fail
    exact ⟨[_,_,_],⟨Fz.row (es:=1) rfl hr.1 (by rw [List.length_map];exact hTl) (uQ T) hr.2.2 (by rw [gk];exact oc _) (fun h=>Bool.noConfusion h),Fz.deep rfl,Fz.deep rfl,trivial⟩,rfl⟩
 ·have o1:=yB one c h p he;have d1:(!decide (kJ c p=0))=true:=by rw [decide_eq_false he];rfl
  rw [if_neg he]
  generalize kJ c p=e at *
  refine ak.body (fn:=Tryz.f33) rfl rfl rfl rfl ?_;refine aa (mu:=fun t=>Nat.beq t 53) ?_;repeat' first|refine u1 ?_|((with_reducible refine qq3 ?_);refine ak.call o1 rfl rfl ?_)|refine u2 ?_|fail
  exact ⟨[_,_,_],⟨Fz.nil,Fz.deep rfl,Fz.deep rfl,trivial⟩,rfl⟩
end Go.Proofs.YtlpmfgmldmdggaaGreat
open Go Go.RM
namespace Go.Proofs.YtlpmfgmldmdggaaGreat
set_option maxRecDepth 100000
set_option maxHeartbeats 4000000
theorem Fw (one:Bool) (T:List (List Int)) (fa fb:Bool) (hT:T.length≤1000) (hl:∀ l ∈ T,l.length≤maxLen):Pu one 35 [.sl (T.map eL) fa,.sl (T.map eL) fb] (BB true):=by
 have el:((T.map eL).length:Int)=T.length:=by simp
 have d0:(!decide (((T.map eL).length:Int)=((T.map eL).length:Int)))=false:=by rw [decide_eq_true rfl];rfl
 refine ak.body (fn:=Tryz.f35) rfl rfl rfl rfl ?_;refine qq1 ?_;repeat' first|refine u1 ?_|refine u2 ?_|fail
 refine aB.aO (ah.to (l:=[(0,.sl (T.map eL) fa),(1,.sl (T.map eL) fb),(5,af (0:Nat))]) (hp:=[]) 0 rfl ⟨rfl,rfl,rfl,trivial⟩ (qq5 _) rfl rfl) ?_;refine aB.loop (fun k:Nat=>k≤T.length) (fun k=>⟨aM [(0,.sl (T.map eL) fa),(1,.sl (T.map eL) fb),(5,af (k:Nat))],[],bq.none,false,0⟩) (fun k=>T.length - k) ?_ 0 (qq5 _);intro k hk;by_cases hlt:k < T.length
 ·have dl:decide ((k:Int) < ((T.map eL).length:Int))=true:=decide_eq_true (by omega);have hat:(T.map eL)[((k:Nat):Int).toNat]?=some (eL T[k]):=dN hlt;have o1:=Fb true T[k] false false (hl _ (List.getElem_mem hlt))
  generalize T[k]=l at *
  refine qq1 ?_;repeat' first|refine u1 ?_|((with_reducible refine qq4 ?_);refine ⟨eL l,⟨by omega,hat⟩,rfl,?_⟩)|(refine ⟨_,_,.inl ⟨rfl,rfl⟩,o1,?_⟩)|refine u2 ?_|fail
  exact ⟨k+1,hlt,(by dsimp only;omega),ah.to (l:=[(0,.sl (T.map eL) fa),(1,.sl (T.map eL) fb),(5,af (k+1:Nat))]) 0 rfl ⟨rfl,rfl,aE (by simp),trivial⟩ (qq5 _) rfl rfl⟩
 ·have dl:decide ((k:Int) < ((T.map eL).length:Int))=false:=decide_eq_false (by omega);refine qq1 ?_;repeat' first|refine u1 ?_|refine u2 ?_|fail
  exact ⟨[_],⟨Fz.deep rfl,trivial⟩,rfl⟩
theorem Ab (one:Bool) (c:aL) (h:c.Ok) (p:bE):Pu one 45 [.ag (aI c),.ag (cV p)] (BB (decide (kJ c p=0))):=by
 have o0:=rM one c h p
 generalize kJ c p=e at *
 refine ak.body (fn:=Tryz.f45) rfl rfl rfl rfl ?_;refine qq1 ?_;repeat' first|refine u1 ?_|((with_reducible refine qq3 ?_);refine ak.call o0 rfl rfl ?_)|refine u2 ?_|fail
 exact ⟨[_],⟨Fz.deep rfl,trivial⟩,rfl⟩
end Go.Proofs.YtlpmfgmldmdggaaGreat
open Go Go.RM
namespace Go.Proofs.YtlpmfgmldmdggaaGreat
set_option maxRecDepth 100000
set_option maxHeartbeats 4000000
theorem Ib {c:aL} (hg:Good c) {p:bE} (hp:ob p):Fo (kH c p)∧((kH c p).length:Int)=p.turns∧∀ l ∈ kH c p,l.length≤5:=by
 have h:=(uT hg hp).2;have h4:=hp.turns;have h5:∀ l ∈ kH c p,l.length≤5:=fun l hl=>by obtain ⟨a,_,rfl⟩:=List.mem_map.1 hl;exact oR a 5
 have hlen:((kH c p).length:Int)=p.turns:=by unfold kH;rw [List.length_map];exact h
 exact ⟨⟨by simp only [maxLen];omega,fun l hl=>by have:=h5 l hl;simp only [maxLen];omega⟩,hlen,h5⟩
theorem LR (c:aL) (hg:Good c) {p:bE} (hp:ob p) (x:List Nat):Fo (jB c p x p.turns.toNat)∧((jB c p x p.turns.toNat).length:Int)=p.turns:=by have h4:=hp.turns;have hm:=hg.aD;have hl:=wT c p x p.turns.toNat;exact ⟨⟨by simp only [maxLen];omega,fun l h=>by have:=s9 c p x _ l h;simp only [maxLen];omega⟩,by omega⟩
