/-
  Contracts of the program's functions and of the document's. Lemmas alone; their conditions stand in them.
-/
import Derived.Test.YtlpmfgmldmdggaaGreatK18
open Go Go.RM
namespace Go.Proofs.YtlpmfgmldmdggaaGreat
set_option maxRecDepth 100000
set_option maxHeartbeats 4000000
def bN:wS→Int
 | none=>0
 | some y=>y.2
def bR (tn:Nat):wS→List Int
 | none=>List.replicate tn 0
 | some y=>nI y.1
def Nx (tn:Nat) (o:wS):Prop:=∀ y,o=some y→y.1.length=tn
abbrev hA (tn:Nat) (o:wS):List AB:=[.cells [af (bN o)] 0 0,.gone,.cells (ay (bR tn o)) 1 0,.cells [.aI 2 0 0 tn tn] 0 0,.cells [BB o.isSome] 0 0]
theorem Jx (tn:Nat) (o:wS):(hA tn o).all DA=true:=by
 have h1:DA (.cells (ay (bR tn o)) 1 0)=true:=by show (ay (bR tn o)).all MU=true;rw [List.all_map,List.all_eq_true];intro x _;rfl
 simp only [List.all_cons,List.all_nil,h1,Bool.true_and,Bool.and_true];rfl
theorem C3 (tn:Nat) (o:wS):(hA tn o).all (AB.i5 5)=true:=by have h1:AB.i5 5 (.cells (ay (bR tn o)) 1 0)=true:=iu 5 (fun _=>rfl) _;simp only [List.all_cons,List.all_nil,h1,Bool.true_and,Bool.and_true];rfl
def oI (c:aS) (p:dm) (X:List (List Nat)) (i:Nat):wS:=(CV c p (X.take i)).foldl wT none
theorem DO {c:aS} {p:dm} {X:List (List Nat)} {i:Nat} {t:List Nat} (h:X[i]?=some t):oI c p X (i+1)=wT (oI c p X i) (t,kH c p t):=by unfold oI CV;rw [List.take_add_one,h,List.map_append,List.foldl_append];rfl
theorem Hv {c:aS} {p:dm} {X:List (List Nat)} {tn:Nat} (h:∀ t ∈ X,t.length=tn):∀ i,Nx tn (oI c p X i)
 | 0=>fun y hy=>by cases hy
 | i+1=>by
  cases hx:X[i]? with
  | none =>
   have e:oI c p X (i+1)=oI c p X i:=by unfold oI;rw [List.take_add_one,hx];show (CV c p (List.take i X++[])).foldl wT none=_;rw [List.append_nil]
   rw [e];exact Hv h i
  | some t =>
   rw [DO hx];intro y hy;have ht:=h t (List.mem_of_getElem? hx);have ih:=Hv (c:=c) (p:=p) h i
   generalize oI c p X i=o at *
   cases o with
   | none=>cases hy;exact ht
   | some w =>
    unfold wT at hy;dsimp only at hy;split at hy
    ·cases hy;exact ht
    ·cases hy;exact ih _ rfl
theorem yD (l:List Int):((ints l).flatten).all AV.one=true:=by rw [gi,List.all_map,List.all_eq_true];intro x _;rfl
theorem wV {W:List Int} {t:List Nat} (h:W.length=t.length):aQ (ay W) (ints (nI t)).flatten 0=ay (nI t):=by rw [gi];unfold aQ;rw [List.take_zero,List.nil_append,List.drop_of_length_le (by rw [List.length_map,List.length_map,List.length_map];omega),List.append_nil]
theorem Hw (n:Int) (W:List Int) (tn:Nat) (L:List (List Int)) (v:Nat):([.cells [af n] 0 0,.gone,.cells (ay W) 1 0,.cells [.aI 2 0 0 tn tn] 0 0,.cells [BB true] 0 0,.cells (oZ L) 1 v]:List AB).all (AB.i5 6)=true:=by have h1:AB.i5 6 (.cells (ay W) 1 0)=true:=iu 6 (fun _=>rfl) _;have h2:AB.i5 6 (.cells (oZ L) 1 v)=true:=iu 6 (fun _=>rfl) _;simp only [List.all_cons,List.all_nil,h1,h2,Bool.true_and,Bool.and_true];rfl
theorem EO (one:Bool) (c:aS) (h:c.Ok) (p:dm):Pu one 33 [.ag (aM c),.ag (cw p)] (EM c p):=by
 unfold EM;by_cases he:sg c p=0
 ·have o1:=BG one c h p he;obtain ⟨hg,hp⟩:=yz he;rw [if_pos he];have o2:=Mg one c hg p hp;have om:=fun t f h32 hl=>KH one c hg p hp t f h32 hl;have h16:=DK hg hp;have hS32:l8 (kM c p.aN):=fun a ha=>wR hg ha;have hal:=wU hg hp p.turns.toNat (pre:=[]) (fun x hx=>by cases hx);obtain ⟨t0,n0,hff⟩:=kI hg hp p.turns.toNat (pre:=[]) (fun x hx=>by cases hx);have hfv:uE c p=(t0,n0):=by unfold uE;rw [hff.eq];rfl
  unfold C2;rw [hfv];obtain ⟨tn,htn⟩:∃ tn:Nat,p.turns=tn:=⟨p.turns.toNat,by have:=hp.turns;omega⟩;have htt:p.turns.toNat=tn:=by omega
  have h4:1≤tn∧tn≤4:=by have:=hp.turns;omega
  have hfe:=hff.eq;have hfm:=hff.mem;clear hff hfv;rw [htt] at hal hfe hfm;have hgen:=Mh one c p htn h4 hS32 h16;have hXl:=fun t ht=>zW hS32 tn [] (fun x hx=>by cases hx) t ht
  generalize kM c p.aN=S at *
  generalize hX:kG S tn []=X at *
  have hol:oI c p X X.length=some (t0,n0):=by unfold oI;rw [List.take_length,←hal,hfe]
  have ht0:=(hXl t0 hfm).2;have ht32:=(hXl t0 hfm).1;unfold K4 gU at o2 hgen;unfold gU at om;unfold Kn at o1
  generalize bI c 0 c.aH.length=m0 at *
  generalize bI c 1 c.aH.length=m1 at *
  generalize bI c 2 c.aH.length=m2 at *
  obtain ⟨tu,d,aw⟩:=p;obtain ⟨p1,p2,p3⟩:=hp;dsimp only at htn p1 p2 p3;subst htn;change Pu one 75 [.ag (aM c),.ag [af (tn:Nat),af d,af aw]] (.tp [.ag [.sl (c.aE.map aX) false,.sl (c.aH.map bq) false,af c.least,af (tn:Nat),af d,af aw,af (m0:Nat),af (m1:Nat),af (m2:Nat)],af 0]) at o1;change Pu one 82 [.ag [.sl (c.aE.map aX) false,.sl (c.aH.map bq) false,af c.least,af (tn:Nat),af d,af aw,af (m0:Nat),af (m1:Nat),af (m2:Nat)]] (.fn 114 [] [.pt [.sl (c.aE.map aX) false,.sl (c.aH.map bq) false,af c.least,af (tn:Nat),af d,af aw,af (m0:Nat),af (m1:Nat),af (m2:Nat)] 0,.pt [.sl (ints (nI S)) false] 0]) at o2;change ED TT TB one (.fn 114 [] [.pt [.sl (c.aE.map aX) false,.sl (c.aH.map bq) false,af c.least,af (tn:Nat),af d,af aw,af (m0:Nat),af (m1:Nat),af (m2:Nat)] 0,.pt [.sl (ints (nI S)) false] 0]) _ at hgen;change ∀ (t:List Nat) (f:Bool),l8 t→(t.length:Int)≤(tn:Int)→Pu one 83 [.ag [.sl (c.aE.map aX) false,.sl (c.aH.map bq) false,af c.least,af (tn:Nat),af d,af aw,af (m0:Nat),af (m1:Nat),af (m2:Nat)],.sl (ints (nI t)) f] (af (kH c (⟨(tn:Int),d,aw⟩:dm) t)) at om;have d0:(!decide ((0:Int)=0))=false:=by decide
  show Pu one 33 [.ag (aM c),.ag [af (tn:Nat),af d,af aw]] _;refine ak.body (fn:=Tryz.f33) rfl rfl rfl rfl ?_;refine RM.nc (mu:=fun t=>Nat.beq t 53) ?_;repeat' first|refine u1 ?_|refine u2 ?_|fail
  refine RM.nc (mu:=fun t=>Nat.beq t 53) ?_;repeat' first|refine u1 ?_|((with_reducible refine qq3 ?_);refine ak.call o1 rfl rfl ?_)|refine u2 ?_|fail
  refine aB.aP (ah.giveUp 1 (l:=[(3,.pt [af (tn:Nat),af d,af aw] 0),(4,.fl (.slice none 0 0)),(5,.ptr 0 0 0),(6,af 0),(7,.pt [.sl (c.aE.map aX) false,.sl (c.aH.map bq) false,af c.least,af (tn:Nat),af d,af aw,af (m0:Nat),af (m1:Nat),af (m2:Nat)] 0)]) (hp:=[.cells [af 0] 0 0,.gone]) rfl (qq5 _) rfl ⟨.same rfl,.same rfl,.same rfl,.same rfl,.ptr,trivial⟩ rfl rfl) ?_;refine RM.cutAt (st':=⟨aL [(3,.pt [af (tn:Nat),af d,af aw] 0),(4,.fl (.slice none 0 0)),(5,.ptr 0 0 0),(6,af 0),(7,.pt [.sl (c.aE.map aX) false,.sl (c.aH.map bq) false,af c.least,af (tn:Nat),af d,af aw,af (m0:Nat),af (m1:Nat),af (m2:Nat)] 0)],[.cells [af 0] 0 0,.gone],bp.none,false,0⟩) ?_ ?_
  ·refine aa (mu:=fun t=>Nat.beq t 53) ?_;repeat' first|refine u1 ?_|refine u2 ?_|fail
   exact .is (ah.to 2 rfl ⟨rfl,rfl,rfl,rfl,rfl,trivial⟩ (qq5 _) rfl rfl)
  refine RM.nc (mu:=fun t=>Nat.beq t 53) ?_;repeat' first|refine u1 ?_|(refine RM.MP (n:=tn) rfl rfl rfl ⟨by show 8 * tn≤_;omega,by omega⟩ rfl ?_)|refine u2 ?_|fail
  refine RM.nc (mu:=fun t=>Nat.beq t 53) ?_;repeat' first|refine u1 ?_|refine u2 ?_|fail
  refine aB.seq ?_;refine RM.nc (mu:=fun t=>Nat.beq t 53) ?_;repeat' first|refine u1 ?_|((with_reducible refine qq3 ?_);refine ak.call o2 rfl rfl ?_)|refine u2 ?_|fail
  refine aB.aP (ah.to (l:=[(3,.pt [af (tn:Nat),af d,af aw] 0),(4,.fl (.slice none 0 0)),(5,.ptr 0 0 0),(6,af 0),(7,.pt [.sl (c.aE.map aX) false,.sl (c.aH.map bq) false,af c.least,af (tn:Nat),af d,af aw,af (m0:Nat),af (m1:Nat),af (m2:Nat)] 0),(8,.ptr 3 0 0),(9,.ptr 4 0 0),(27,(.fn 114 [] [.pt [.sl (c.aE.map aX) false,.sl (c.aH.map bq) false,af c.least,af (tn:Nat),af d,af aw,af (m0:Nat),af (m1:Nat),af (m2:Nat)] 0,.pt [.sl (ints (nI S)) false] 0]))]) (hp:=hA tn none) 5 ?_ ⟨rfl,rfl,rfl,rfl,rfl,rfl,rfl,rfl,trivial⟩ (qq5 _) rfl (C3 _ _)) ?_
  ·obtain e|e|e|e:tn=1∨tn=2∨tn=3∨tn=4:=by omega
   all_goals (subst e;rfl)
  refine aB.block ?_;refine aB.Kt (fun i=>hA tn (oI c (⟨(tn:Int),d,aw⟩:dm) X i)) (fun _=>bp.none) (fun _=>True) rfl hgen (fun i=>Jx _ _) rfl rfl trivial (fun i x hx _=>?_) (fun _=>?_)
  ·obtain ⟨t,hXt,rfl⟩:∃ t,X[i]?=some t∧x=[.sl (ints (nI t)) false]:=by rw [List.getElem?_map,Option.map_eq_some_iff] at hx;obtain ⟨y,h1,h2⟩:=hx;exact ⟨y,h1,h2.symm⟩
   obtain ⟨ht32,htl⟩:=hXl t (List.mem_of_getElem? hXt);rw [List.length_nil,Nat.zero_add] at htl;have om:=om t false ht32 (by omega);have hok:=Hv (c:=c) (p:=(⟨(tn:Int),d,aw⟩:dm)) (fun t ht=>by have:=(hXl t ht).2;rw [List.length_nil,Nat.zero_add] at this;exact this) i;refine ⟨rfl,?_⟩;rw [DO hXt]
   generalize oI c (⟨(tn:Int),d,aw⟩:dm) X i=o at *
   cases o with
   | none =>
    have htl':(ints (nI t)).length=tn:=by rw [List.length_map,List.length_map];exact htl
    have hlr:(List.replicate tn (0:Int)).length=tn:=List.length_replicate ..;have hcl:0 < (ay (List.replicate tn (0:Int))).length:=by rw [List.length_map];omega
    have hcl2:0+tn * 1≤(ay (List.replicate tn (0:Int))).length:=by rw [List.length_map];omega
    have hsp:=wV (W:=List.replicate tn (0:Int)) (t:=t) (by omega);refine aa (mu:=fun t=>Nat.beq t 53) ?_;repeat' first|refine u1 ?_|refine u2 ?_|fail
    refine aa (mu:=fun t=>Nat.beq t 53) ?_;repeat' first|refine u1 ?_|((with_reducible refine qq3 ?_);refine ak.call om rfl rfl ?_)|(refine RM.Mf (els:=ints (nI t)) (cs:=ay (List.replicate tn (0:Int))) rfl rfl rfl (fun el hel=>by obtain ⟨x,_,rfl⟩:=List.mem_map.1 hel;rfl) (yD _) rfl ⟨h4.1,Nat.le_of_eq htl',hcl⟩ hcl2 ?_)|refine u2 ?_|fail
    exact ⟨_,ah.to (l:=[]) (hp:=hA tn (some (t,kH c (⟨(tn:Int),d,aw⟩:dm) t))) 5 (by show _=hA tn (some (t,kH c (⟨(tn:Int),d,aw⟩:dm) t));unfold hA;rw [show bR tn (some (t,kH c (⟨(tn:Int),d,aw⟩:dm) t))=nI t from rfl,←hsp];rfl) trivial (qq6 _) rfl (C3 _ _)⟩
   | some w =>
    obtain ⟨b,n⟩:=w;have hb:b.length=tn:=hok _ rfl;by_cases hlt:kH c (⟨(tn:Int),d,aw⟩:dm) t < n
    ·have d3:decide (kH c (⟨(tn:Int),d,aw⟩:dm) t < n)=true:=decide_eq_true hlt;rw [show wT (some (b,n)) (t,kH c (⟨(tn:Int),d,aw⟩:dm) t)=some (t,kH c (⟨(tn:Int),d,aw⟩:dm) t) from if_pos hlt];have htl':(ints (nI t)).length=tn:=by rw [List.length_map,List.length_map];exact htl
     have hlr:(nI b).length=tn:=by rw [List.length_map];exact hb
     have hcl:0 < (ay (nI b)).length:=by rw [List.length_map];omega
     have hcl2:0+tn * 1≤(ay (nI b)).length:=by rw [List.length_map];omega
     have hsp:=wV (W:=nI b) (t:=t) (by omega);refine aa (mu:=fun t=>Nat.beq t 53) ?_;repeat' first|refine u1 ?_|refine u2 ?_|fail
     refine aa (mu:=fun t=>Nat.beq t 53) ?_;repeat' first|refine u1 ?_|((with_reducible refine qq3 ?_);refine ak.call om rfl rfl ?_)|(refine RM.Mf (els:=ints (nI t)) (cs:=ay (nI b)) rfl rfl rfl (fun el hel=>by obtain ⟨x,_,rfl⟩:=List.mem_map.1 hel;rfl) (yD _) rfl ⟨h4.1,Nat.le_of_eq htl',hcl⟩ hcl2 ?_)|refine u2 ?_|fail
     exact ⟨_,ah.to (l:=[]) (hp:=hA tn (some (t,kH c (⟨(tn:Int),d,aw⟩:dm) t))) 5 (by show _=hA tn (some (t,kH c (⟨(tn:Int),d,aw⟩:dm) t));unfold hA;rw [show bR tn (some (t,kH c (⟨(tn:Int),d,aw⟩:dm) t))=nI t from rfl,←hsp];rfl) trivial (qq6 _) rfl (C3 _ _)⟩
    ·have d3:decide (kH c (⟨(tn:Int),d,aw⟩:dm) t < n)=false:=decide_eq_false hlt;rw [show wT (some (b,n)) (t,kH c (⟨(tn:Int),d,aw⟩:dm) t)=some (b,n) from if_neg hlt];refine aa (mu:=fun t=>Nat.beq t 53) ?_;repeat' first|refine u1 ?_|refine u2 ?_|fail
     refine aa (mu:=fun t=>Nat.beq t 53) ?_;repeat' first|refine u1 ?_|((with_reducible refine qq3 ?_);refine ak.call om rfl rfl ?_)|refine u2 ?_|fail
     exact (ah.refl _).2
  ·rw [List.length_map,hol];repeat' first|refine u1 ?_|refine u2 ?_|fail
   refine aa (mu:=fun t=>Nat.beq t 53) ?_;repeat' first|refine u1 ?_|refine u2 ?_|fail
   refine aB.aP (ah.trans (ah.nW 1) (ah.JJ (l:=[(4,.aI 5 0 0 0 0),(5,.ptr 0 0 0),(6,af 0),(43,.aI 2 0 0 tn tn),(44,af (tn:Nat)),(45,af ((0:Nat)))]) (hp:=[.cells [af n0] 0 0,.gone,.cells (ay (nI t0)) 1 0,.cells [.aI 2 0 0 tn tn] 0 0,.cells [BB true] 0 0,.cells (oZ ((t0.map cV).take 0)) 1 0]) 6 rfl ⟨eP.nV,eP.refl _,eP.refl _,eP.refl _,eP.refl _,eP.refl _,trivial⟩ (qq5 _) rfl (Hw _ _ _ _ _))) ?_;have hTl:(t0.map cV).length=tn:=by rw [List.length_map];simpa using ht0
   refine aB.loop (fun x:Nat × Nat × Nat=>x.1≤tn∧(x.2.2=x.1∨x.2.2=x.1+1)) (fun x=>⟨aL [(4,.aI 5 x.2.1 0 x.1 x.2.2),(5,.ptr 0 0 0),(6,af 0),(43,.aI 2 0 0 tn tn),(44,af (tn:Nat)),(45,af ((x.1:Nat)))],[.cells [af n0] 0 0,.gone,.cells (ay (nI t0)) 1 0,.cells [.aI 2 0 0 tn tn] 0 0,.cells [BB true] 0 0,.cells (oZ ((t0.map cV).take x.1)) 1 x.2.1],bp.none,false,0⟩) (fun x=>tn - x.1) ?_ (0,0,0) ⟨qq5 _,.inl rfl⟩;rintro ⟨k,v,cc⟩ ⟨hk,hcap⟩;dsimp only at hk hcap;show aB _ _ _ _ ⟨aL [(4,.aI 5 v 0 k cc),(5,.ptr 0 0 0),(6,af 0),(43,.aI 2 0 0 tn tn),(44,af (tn:Nat)),(45,af ((k:Nat)))],[.cells [af n0] 0 0,.gone,.cells (ay (nI t0)) 1 0,.cells [.aI 2 0 0 tn tn] 0 0,.cells [BB true] 0 0,.cells (oZ ((t0.map cV).take k)) 1 v],bp.none,false,0⟩ _;by_cases hlt:k < tn
   ·have dl:decide ((k:Int) < (tn:Int))=true:=decide_eq_true (by omega);have hkt:k < t0.length:=by rw [←List.length_map (f:=cV),hTl];exact hlt
    have g1:(ay (nI t0))[0+((k:Nat):Int).toNat * 1]?=some (af ((t0[k]:Nat):Int)):=wL (by rw [List.getElem?_map,List.getElem?_eq_getElem hkt];rfl);have oe:=IW one t0[k] (ht32 _ (List.getElem_mem hkt));have hsn:(t0.map cV).take (k+1)=(t0.map cV).take k++[cV t0[k]]:=by rw [List.take_add_one,List.getElem?_map,List.getElem?_eq_getElem hkt];rfl
    have hgl:(oZ ((t0.map cV).take k)).length=k * 1:=by rw [List.length_map,List.length_take];omega
    generalize t0[k]=a at *
    refine aa (mu:=fun t=>Nat.beq t 53) ?_;repeat' first|refine u1 ?_|((with_reducible show RM.wpOp _ _ (.load _ _) _ _ _);refine RM.bD rfl rfl rfl g1 ?_)|((with_reducible refine qq3 ?_);refine ak.call oe rfl rfl ?_)|((with_reducible show RM.wpOp _ _ (.call _) _ _ _);refine RM.wD (cs:=oZ ((t0.map cV).take k)) (n:=k) (els:=[[.sl (ints (cV a)) false]]) rfl rfl rfl rfl rfl (fun el hel=>by rw [List.mem_singleton.1 hel];rfl) rfl rfl hgl hcap (by simp only [List.length_singleton];exact ⟨by show (_+1) * 24≤_;omega,by omega⟩) (fun v' c' hc'=>?_))|refine u2 ?_|fail
    exact ⟨(k+1,v',c'),⟨hlt,hc'⟩,(by dsimp only;omega),ah.to (l:=[(4,.aI 5 v' 0 (k+1) c'),(5,.ptr 0 0 0),(6,af 0),(43,.aI 2 0 0 tn tn),(44,af (tn:Nat)),(45,af (((k+1):Nat)))]) (hp:=[.cells [af n0] 0 0,.gone,.cells (ay (nI t0)) 1 0,.cells [.aI 2 0 0 tn tn] 0 0,.cells [BB true] 0 0,.cells (oZ ((t0.map cV).take (k+1))) 1 v']) 6 (by rw [hsn];unfold oZ;rw [List.map_append];rfl) ⟨rfl,rfl,rfl,rfl,rfl,aD (by simp),trivial⟩ (qq5 _) rfl (Hw _ _ _ _ _)⟩
   ·have dl:decide ((k:Int) < (tn:Int))=false:=decide_eq_false (by omega);have hkn:k=tn:=by omega
    subst hkn;have hall:(t0.map cV).take k=t0.map cV:=List.take_of_length_le (by omega);rw [hall]
    generalize t0.map cV=T at *
    have hr:=DC T;rw [hTl] at hr;refine aa (mu:=fun t=>Nat.beq t 53) ?_;repeat' first|refine u1 ?_|refine u2 ?_|fail
    exact ⟨[_,_,_],⟨Fz.row (es:=1) rfl hr.1 (by rw [List.length_map];exact hTl) (DB T) hr.2.2 (by rw [l7];exact BH _) (fun h=>Bool.noConfusion h),Fz.deep rfl,Fz.deep rfl,trivial⟩,rfl⟩
 ·have o1:=yA one c h p he;have d1:(!decide (sg c p=0))=true:=by rw [decide_eq_false he];rfl
  rw [if_neg he]
  generalize sg c p=e at *
  refine ak.body (fn:=Tryz.f33) rfl rfl rfl rfl ?_;refine aa (mu:=fun t=>Nat.beq t 53) ?_;repeat' first|refine u1 ?_|((with_reducible refine qq3 ?_);refine ak.call o1 rfl rfl ?_)|refine u2 ?_|fail
  exact ⟨[_,_,_],⟨Fz.nil,Fz.deep rfl,Fz.deep rfl,trivial⟩,rfl⟩
end Go.Proofs.YtlpmfgmldmdggaaGreat
open Go Go.RM
namespace Go.Proofs.YtlpmfgmldmdggaaGreat
set_option maxRecDepth 100000
set_option maxHeartbeats 4000000
abbrev kN (L:List (List Int)):List AV:=L.map wQ
theorem EP (l:List Int):(wQ l).deep=true:=by unfold wQ;split <;> rfl
theorem Hx (k:Nat) (l:List Int):AV.i5 k (wQ l)=true:=by unfold wQ;split <;> rfl
theorem BT (l:List Int):AV.one (wQ l)=true:=by unfold wQ;split <;> rfl
theorem od:∀ L:List (List Int),(L.map eA).flatten=kN L
 | []=>rfl
 | l :: L=>by rw [List.map_cons,List.flatten_cons,od L];rfl
theorem wW (L:List (List Int)):cZ (kN L)=true:=oO (fun l=>EP l) L
theorem og (L:List (List Int)) (v:Nat):([.cells (kN L) 1 v]:List AB).all (AB.i5 1)=true:=by have h:AB.i5 1 (.cells (kN L) 1 v)=true:=iu 1 (fun l=>Hx 1 l) _;simp only [List.all_cons,List.all_nil,h,Bool.and_true]
theorem z4 (L:List (List Int)):∀ el ∈ L.map eA,el.length=1:=fun el hel=>by obtain ⟨x,_,rfl⟩:=List.mem_map.1 hel;rfl
theorem jL (L:List (List Int)):(0:Nat)+L.length * 1≤(kN L).length∧(L.map eA).length=L.length∧(L.map eA).flatten=((kN L).drop 0).take (L.length * 1):=by refine ⟨by rw [List.length_map];omega,List.length_map _,?_⟩;rw [od,List.drop_zero,List.take_of_length_le (by rw [List.length_map];omega)]
theorem Jy {n m i k:Nat} (h5:n≤5) (hk:k≤5) (hm:6 ^ m≤6 ^ 2):(nY n m i k).length≤181:=by
 have h1:=wP (f:=fun q:Nat=>(CP n m (i+q+1)).map fun l=>((i+q:Nat):Int) :: l) (c:=6 ^ m) (l:=List.range k) fun q _=>by rw [List.length_map];exact zP h5 m _
 rw [List.length_range] at h1;have h2:k * 6 ^ m≤5 * 6 ^ 2:=Nat.mul_le_mul hk hm;show (List.flatMap _ _).length+1≤_;omega
theorem Hy (one:Bool) {n:Nat} (i:Nat):Pu one 86 [af (i:Nat),af (n:Nat),af 0] (.sl ((CP n 0 i).map eL) false):=by
 refine ak.dn (v:=.sl ((CP n 0 i).map eA) false) ?_ (DD _) rfl;have d0:decide ((0:Int) < 0)=false:=by decide
 refine ak.body (fn:=Tryz.f86) rfl rfl rfl rfl ?_;refine aa (mu:=fun t=>Nat.beq t 43 || Nat.beq t 11) ?_;repeat' first|refine u1 ?_|refine u2 ?_|fail
 refine aB.aP (ah.to (l:=[(1,af (n:Nat)),(2,af 0),(7,.aI 0 0 0 1 1),(8,af (i:Nat))]) (hp:=[.cells [.fl (.slice none 0 0)] 1 0]) 1 rfl ⟨rfl,rfl,rfl,rfl,trivial⟩ (qq5 _) rfl rfl) ?_;refine aB.loop (fun _:Unit=>True) (fun _=>⟨aL [(1,af (n:Nat)),(2,af 0),(7,.aI 0 0 0 1 1),(8,af (i:Nat))],[.cells [.fl (.slice none 0 0)] 1 0],bp.none,false,0⟩) (fun _=>0) ?_ () trivial;intro _ _;by_cases hlt:i < n
 ·have d1:decide ((i:Int) < (n:Int))=true:=decide_eq_true (by omega);refine aa (mu:=fun t=>Nat.beq t 43 || Nat.beq t 11) ?_;repeat' first|refine u1 ?_|refine u2 ?_|fail
  exact ⟨[_],⟨Fz.row (es:=1) rfl (jL [[]]).1 (jL [[]]).2.1 (z4 [[]]) (jL [[]]).2.2 (by rw [od];exact wW [[]]) (fun h=>Bool.noConfusion h),trivial⟩,rfl⟩
 ·have d1:decide ((i:Int) < (n:Int))=false:=decide_eq_false (by omega);refine aa (mu:=fun t=>Nat.beq t 43 || Nat.beq t 11) ?_;repeat' first|refine u1 ?_|refine u2 ?_|fail
  exact ⟨[_],⟨Fz.row (es:=1) rfl (jL [[]]).1 (jL [[]]).2.1 (z4 [[]]) (jL [[]]).2.2 (by rw [od];exact wW [[]]) (fun h=>Bool.noConfusion h),trivial⟩,rfl⟩
theorem Jz (one:Bool) {n:Nat} (h5:n≤5):∀ (m i:Nat),m≤2→i≤n→Pu one 86 [af (i:Nat),af (n:Nat),af (m:Nat)] (.sl ((CP n m i).map eL) false):=by
 intro m
 induction m with
 | zero=>intro i _ _;exact Hy one i
 | succ m ih=>?_
 intro i hm hi;have hD:CP n (m+1) i=nY n m i (n - i):=rfl;rw [hD];refine ak.dn (v:=.sl ((nY n m i (n - i)).map eA) false) ?_ (DD _) rfl;refine ak.body (fn:=Tryz.f86) rfl rfl rfl rfl ?_;have d0:decide ((0:Int) < ((m+1:Nat):Int))=true:=decide_eq_true (by omega);have hp6:6 ^ m≤6 ^ 2:=Nat.pow_le_pow_right (by decide) (by omega);refine aa (mu:=fun t=>Nat.beq t 43 || Nat.beq t 11) ?_;repeat' first|refine u1 ?_|refine u2 ?_|fail
 refine aB.aP (ah.to (l:=[(1,af (n:Nat)),(2,af ((m+1:Nat):Int)),(7,.aI 0 0 0 (nY n m i 0).length 1),(8,af ((i+0:Nat):Int))]) (hp:=[.cells (kN (nY n m i 0)) 1 0]) 1 rfl ⟨rfl,rfl,rfl,rfl,trivial⟩ (qq5 _) rfl (og _ _)) ?_;refine aB.loop (fun x:Nat × Nat × Nat=>i+x.1≤n∧(x.2.2=(nY n m i x.1).length∨x.2.2=(nY n m i x.1).length+1)) (fun x=>⟨aL [(1,af (n:Nat)),(2,af ((m+1:Nat):Int)),(7,.aI 0 x.2.1 0 (nY n m i x.1).length x.2.2),(8,af ((i+x.1:Nat):Int))],[.cells (kN (nY n m i x.1)) 1 x.2.1],bp.none,false,0⟩) (fun x=>n - x.1) ?_ (0,0,1) ⟨hi,.inl rfl⟩;rintro ⟨k,v,c⟩ ⟨hk,hcap⟩;dsimp only at hk hcap;show aB _ _ _ _ ⟨aL [(1,af (n:Nat)),(2,af ((m+1:Nat):Int)),(7,.aI 0 v 0 (nY n m i k).length c),(8,af ((i+k:Nat):Int))],[.cells (kN (nY n m i k)) 1 v],bp.none,false,0⟩ _;by_cases hlt:i+k < n
 ·have d1:decide (((i+k:Nat):Int) < (n:Int))=true:=decide_eq_true (by omega);have oc:=ih (i+k+1) (by omega) (by omega);rw [show ((m:Nat):Int)=((m+1:Nat):Int) - 1 by omega,show ((i+k+1:Nat):Int)=((i+k:Nat):Int)+1 by omega] at oc;have hs:=GG n m i k;have hRl:=zP h5 m (i+k+1);have hRe:=BI (n:=n) m (i+k+1)
  generalize CP n m (i+k+1)=R at *
  refine aa (mu:=fun t=>Nat.beq t 43 || Nat.beq t 11) ?_;repeat' first|refine u1 ?_|((with_reducible refine qq3 ?_);refine ak.call oc rfl rfl ?_)|refine u2 ?_|fail
  have hKl:=Jy (n:=n) (m:=m) (i:=i) (k:=k) h5 (by omega) hp6;have eR:((R.map eL).length:Int)=R.length:=by simp
  have hR36:R.length≤36:=Nat.le_trans hRl hp6;have hP0:(nY n m i k++(R.take 0).map fun l=>((i+k:Nat):Int) :: l)=nY n m i k:=by rw [List.take_zero,List.map_nil,List.append_nil]
  refine aB.aP (ah.to (l:=[(1,af (n:Nat)),(2,af ((m+1:Nat):Int)),(7,.aI 0 v 0 (nY n m i k++(R.take 0).map fun l=>((i+k:Nat):Int) :: l).length c),(8,af ((i+k:Nat):Int)),(9,.sl (R.map eL) false),(10,af (0:Nat))]) (hp:=[.cells (kN (nY n m i k++(R.take 0).map fun l=>((i+k:Nat):Int) :: l)) 1 v]) 1 (by rw [hP0];rfl) ⟨rfl,rfl,by rw [hP0];rfl,rfl,rfl,rfl,trivial⟩ (qq5 _) rfl (og _ _)) ?_;refine aB.loop (fun x:Nat × Nat × Nat=>x.1≤R.length∧(x.2.2=(nY n m i k++(R.take x.1).map fun l=>((i+k:Nat):Int) :: l).length∨x.2.2=(nY n m i k++(R.take x.1).map fun l=>((i+k:Nat):Int) :: l).length+1)) (fun x=>⟨aL [(1,af (n:Nat)),(2,af ((m+1:Nat):Int)),(7,.aI 0 x.2.1 0 (nY n m i k++(R.take x.1).map fun l=>((i+k:Nat):Int) :: l).length x.2.2),(8,af ((i+k:Nat):Int)),(9,.sl (R.map eL) false),(10,af (x.1:Nat))],[.cells (kN (nY n m i k++(R.take x.1).map fun l=>((i+k:Nat):Int) :: l)) 1 x.2.1],bp.none,false,0⟩) (fun x=>R.length - x.1) ?_ (0,v,c) ⟨qq5 _,by dsimp only;rw [hP0];exact hcap⟩;clear hcap;rintro ⟨q,v,c⟩ ⟨hq,hcap⟩;dsimp only at hq hcap;show aB _ _ _ _ ⟨aL [(1,af (n:Nat)),(2,af ((m+1:Nat):Int)),(7,.aI 0 v 0 (nY n m i k++(R.take q).map fun l=>((i+k:Nat):Int) :: l).length c),(8,af ((i+k:Nat):Int)),(9,.sl (R.map eL) false),(10,af (q:Nat))],[.cells (kN (nY n m i k++(R.take q).map fun l=>((i+k:Nat):Int) :: l)) 1 v],bp.none,false,0⟩ _;by_cases hqt:q < R.length
  ·have d2:decide ((q:Int) < ((R.map eL).length:Int))=true:=decide_eq_true (by omega);have hat:(R.map eL)[((q:Nat):Int).toNat]?=some (eL R[q]):=dB hqt;have hP1:(nY n m i k++(R.take (q+1)).map fun l=>((i+k:Nat):Int) :: l)=(nY n m i k++(R.take q).map fun l=>((i+k:Nat):Int) :: l)++[((i+k:Nat):Int) :: R[q]]:=by rw [List.take_add_one,List.getElem?_eq_getElem hqt,List.map_append,←List.append_assoc];rfl
   have hPl:(nY n m i k++(R.take q).map fun l=>((i+k:Nat):Int) :: l).length≤250:=by rw [List.length_append,List.length_map,List.length_take];omega
   have hgl:(kN (nY n m i k++(R.take q).map fun l=>((i+k:Nat):Int) :: l)).length=(nY n m i k++(R.take q).map fun l=>((i+k:Nat):Int) :: l).length * 1:=by rw [List.length_map];omega
   have hle:=hRe _ (List.getElem_mem hqt)
   generalize hP1e:(nY n m i k++(R.take (q+1)).map fun l=>((i+k:Nat):Int) :: l)=P1 at *
   generalize (nY n m i k++(R.take q).map fun l=>((i+k:Nat):Int) :: l)=P at *
   generalize R[q]=l at *
   cases l with
   | nil =>
    refine aa (mu:=fun t=>Nat.beq t 43 || Nat.beq t 11) ?_;repeat' first|refine u1 ?_|((with_reducible refine qq4 ?_);refine ⟨eL [],⟨by omega,hat⟩,rfl,?_⟩)|(refine ⟨[],⟨(fun el h=>by cases h),rfl⟩,rfl,(fun el hel=>by rw [List.mem_singleton.1 hel];rfl),⟨Nat.le_of_ble_eq_true rfl,Nat.le_of_ble_eq_true rfl⟩,fun _=>?_,fun h=>absurd rfl h⟩)|((with_reducible show RM.wpOp _ _ (.call _) _ _ _);refine RM.wD (cs:=kN P) (n:=P.length) (els:=[[wQ (((i+k:Nat):Int) :: [])]]) rfl rfl rfl rfl rfl (fun el hel=>by rw [List.mem_singleton.1 hel];rfl) (by simp only [List.flatten_cons,List.flatten_nil,List.append_nil,List.all_cons,List.all_nil,BT,Bool.and_true]) rfl hgl hcap (by simp only [List.length_singleton];exact ⟨by show (_+1) * 24≤_;omega,by omega⟩) (fun v' c' hc'=>?_))|refine u2 ?_|fail
    refine ⟨(q+1,v',c'),⟨by dsimp only;omega,by dsimp only;rw [hP1e,hP1,List.length_append];exact hc'⟩,(by dsimp only;omega),?_⟩;dsimp only;rw [hP1e];refine ah.to (l:=[(1,af (n:Nat)),(2,af ((m+1:Nat):Int)),(7,.aI 0 v' 0 P1.length c'),(8,af ((i+k:Nat):Int)),(9,.sl (R.map eL) false),(10,af ((q+1:Nat):Int))]) (hp:=[.cells (kN P1) 1 v']) 1 ?_ ⟨rfl,rfl,by rw [hP1,List.length_append];rfl,rfl,rfl,aD (by omega),trivial⟩ (qq5 _) rfl (og _ _);show _=[AB.cells (kN P1) 1 v'];rw [hP1];unfold kN;rw [List.map_append];rfl
   | cons y l =>
    have hbb:(([[af ((i+k:Nat):Int)]]:List (List AV)).length+(ints (y :: l)).length) * 8≤140737488355328∧([[af ((i+k:Nat):Int)]]:List (List AV)).length+(ints (y :: l)).length≤9223372036854775807:=by rw [List.length_map,List.length_singleton];omega
    refine aa (mu:=fun t=>Nat.beq t 43 || Nat.beq t 11) ?_;repeat' first|refine u1 ?_|((with_reducible refine qq4 ?_);refine ⟨eL (y :: l),⟨by omega,hat⟩,rfl,?_⟩)|(refine ⟨ints (y :: l),⟨(fun el hel=>by obtain ⟨x,_,rfl⟩:=List.mem_map.1 hel;rfl),rfl⟩,(by rw [gi,List.all_map,List.all_eq_true];intro x _;rfl),(fun el hel=>by rw [List.mem_singleton.1 hel];rfl),hbb,(fun h=>by cases h),fun _=>⟨by rw [gi];exact yy _,?_⟩⟩)|((with_reducible show RM.wpOp _ _ (.call _) _ _ _);refine RM.wD (cs:=kN P) (n:=P.length) (els:=[[wQ (((i+k:Nat):Int) :: (y :: l))]]) rfl rfl rfl rfl rfl (fun el hel=>by rw [List.mem_singleton.1 hel];rfl) (by simp only [List.flatten_cons,List.flatten_nil,List.append_nil,List.all_cons,List.all_nil,BT,Bool.and_true]) rfl hgl hcap (by simp only [List.length_singleton];exact ⟨by show (_+1) * 24≤_;omega,by omega⟩) (fun v' c' hc'=>?_))|refine u2 ?_|fail
    refine ⟨(q+1,v',c'),⟨by dsimp only;omega,by dsimp only;rw [hP1e,hP1,List.length_append];exact hc'⟩,(by dsimp only;omega),?_⟩;dsimp only;rw [hP1e];refine ah.to (l:=[(1,af (n:Nat)),(2,af ((m+1:Nat):Int)),(7,.aI 0 v' 0 P1.length c'),(8,af ((i+k:Nat):Int)),(9,.sl (R.map eL) false),(10,af ((q+1:Nat):Int))]) (hp:=[.cells (kN P1) 1 v']) 1 ?_ ⟨rfl,rfl,by rw [hP1,List.length_append];rfl,rfl,rfl,aD (by omega),trivial⟩ (qq5 _) rfl (og _ _);show _=[AB.cells (kN P1) 1 v'];rw [hP1];unfold kN;rw [List.map_append];rfl
  ·have d2:decide ((q:Int) < ((R.map eL).length:Int))=false:=decide_eq_false (by omega);have hqq:q=R.length:=by omega
   subst hqq;have hPe:(nY n m i k++(R.take R.length).map fun l=>((i+k:Nat):Int) :: l)=nY n m i (k+1):=by rw [hs,List.take_length]
   rw [hPe] at hcap ⊢;refine aa (mu:=fun t=>Nat.beq t 43 || Nat.beq t 11) ?_;repeat' first|refine u1 ?_|refine u2 ?_|fail
   exact ⟨(k+1,v,c),⟨by dsimp only;omega,hcap⟩,(by dsimp only;omega),ah.to (l:=[(1,af (n:Nat)),(2,af ((m+1:Nat):Int)),(7,.aI 0 v 0 (nY n m i (k+1)).length c),(8,af ((i+(k+1):Nat):Int))]) (hp:=[.cells (kN (nY n m i (k+1))) 1 v]) 1 rfl ⟨rfl,rfl,rfl,aD (by omega),trivial⟩ (qq5 _) rfl (og _ _)⟩
 ·have d1:decide (((i+k:Nat):Int) < (n:Int))=false:=decide_eq_false (by omega);have hkk:k=n - i:=by omega
  subst hkk;refine aa (mu:=fun t=>Nat.beq t 43 || Nat.beq t 11) ?_;repeat' first|refine u1 ?_|refine u2 ?_|fail
  exact ⟨[_],⟨Fz.row (es:=1) rfl (jL _).1 (jL _).2.1 (z4 _) (jL _).2.2 (by rw [od];exact wW _) (fun h=>Bool.noConfusion h),trivial⟩,rfl⟩
