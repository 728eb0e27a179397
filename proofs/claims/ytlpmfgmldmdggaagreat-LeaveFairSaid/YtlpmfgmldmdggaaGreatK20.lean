/-
  Contracts of the program's functions and of the document's. Lemmas alone; their conditions stand in them.
-/
import Derived.Test.YtlpmfgmldmdggaaGreatK11
import Derived.Test.YtlpmfgmldmdggaaGreatK19
open Go Go.RM
namespace Go.Proofs.YtlpmfgmldmdggaaGreat
set_option maxRecDepth 100000
set_option maxHeartbeats 4000000
def bN:zO→Int
 | none=>0
 | some y=>y.2
def bR (tn:Nat):zO→List Int
 | none=>List.replicate tn 0
 | some y=>nI y.1
def M1 (tn:Nat) (o:zO):Prop:=∀ y,o=some y→y.1.length=tn
abbrev hA (tn:Nat) (o:zO):List AB:=[.cells [af (bN o)] 0 0,.gone,.cells (av (bR tn o)) 1 0,.cells [.aL 2 0 0 tn tn] 0 0,.cells [BB o.isSome] 0 0]
theorem I7 (tn:Nat) (o:zO):(hA tn o).all Dr=true:=by
 have h1:Dr (.cells (av (bR tn o)) 1 0)=true:=by show (av (bR tn o)).all Ms=true;rw [List.all_map,List.all_eq_true];intro x _;rfl
 simp only [List.all_cons,List.all_nil,h1,Bool.true_and,Bool.and_true];rfl
theorem CQ (tn:Nat) (o:zO):(hA tn o).all (AB.gZ 5)=true:=by have h1:AB.gZ 5 (.cells (av (bR tn o)) 1 0)=true:=eC 5 (fun _=>rfl) _;simp only [List.all_cons,List.all_nil,h1,Bool.true_and,Bool.and_true];rfl
def oI (c:aP) (p:bW) (X:List (List Nat)) (i:Nat):zO:=(CL c p (X.take i)).foldl wA none
theorem DF {c:aP} {p:bW} {X:List (List Nat)} {i:Nat} {t:List Nat} (h:X[i]?=some t):oI c p X (i+1)=wA (oI c p X i) (t,lz c p t):=by unfold oI CL;rw [List.take_add_one,h,List.map_append,List.foldl_append];rfl
theorem Hi {c:aP} {p:bW} {X:List (List Nat)} {tn:Nat} (h:∀ t ∈ X,t.length=tn):∀ i,M1 tn (oI c p X i)
 | 0=>fun y hy=>by cases hy
 | i+1=>by
  cases hx:X[i]? with
  | none =>
   have e:oI c p X (i+1)=oI c p X i:=by unfold oI;rw [List.take_add_one,hx];show (CL c p (List.take i X++[])).foldl wA none=_;rw [List.append_nil]
   rw [e];exact Hi h i
  | some t =>
   rw [DF hx];intro y hy;have ht:=h t (List.mem_of_getElem? hx);have ih:=Hi (c:=c) (p:=p) h i
   generalize oI c p X i=o at *
   cases o with
   | none=>cases hy;exact ht
   | some w =>
    unfold wA at hy;dsimp only at hy;split at hy
    ·cases hy;exact ht
    ·cases hy;exact ih _ rfl
theorem yg (l:List Int):((ints l).flatten).all AV.one=true:=by rw [dJ,List.all_map,List.all_eq_true];intro x _;rfl
theorem wI {W:List Int} {t:List Nat} (h:W.length=t.length):bg (av W) (ints (nI t)).flatten 0=av (nI t):=by rw [dJ];unfold bg;rw [List.take_zero,List.nil_append,List.drop_of_length_le (by rw [List.length_map,List.length_map,List.length_map];omega),List.append_nil]
theorem Hj (n:Int) (W:List Int) (tn:Nat) (L:List (List Int)) (v:Nat):([.cells [af n] 0 0,.gone,.cells (av W) 1 0,.cells [.aL 2 0 0 tn tn] 0 0,.cells [BB true] 0 0,.cells (dK L) 1 v]:List AB).all (AB.gZ 6)=true:=by have h1:AB.gZ 6 (.cells (av W) 1 0)=true:=eC 6 (fun _=>rfl) _;have h2:AB.gZ 6 (.cells (dK L) 1 v)=true:=eC 6 (fun _=>rfl) _;simp only [List.all_cons,List.all_nil,h1,h2,Bool.true_and,Bool.and_true];rfl
theorem EF (one:Bool) (c:aP) (h:c.Ok) (p:bW):Pu one 33 [.ag (aD c),.ag (bX p)] (Kf c p):=by
 unfold Kf;by_cases he:nQ c p=0
 ·have o1:=Br one c h p he;obtain ⟨hg,hp⟩:=Bn he;rw [if_pos he];have o2:=LF one c hg p hp;have om:=fun t f h32 hl=>Ki one c hg p hp t f h32 hl;have h16:=Dz hg hp;have hS32:lW (jn c p.aF):=fun a ha=>sN hg ha;have hal:=wB hg hp p.turns.toNat (pre:=[]) (fun x hx=>by cases hx);obtain ⟨t0,n0,hff⟩:=wC hg hp p.turns.toNat (pre:=[]) (fun x hx=>by cases hx);have hfv:sO c p=(t0,n0):=by unfold sO;rw [hff.eq];rfl
  unfold lX;rw [hfv];obtain ⟨tn,htn⟩:∃ tn:Nat,p.turns=tn:=⟨p.turns.toNat,by have:=hp.turns;omega⟩;have htt:p.turns.toNat=tn:=by omega
  have h4:1≤tn∧tn≤4:=by have:=hp.turns;omega
  have hfe:=hff.eq;have hfm:=hff.mem;clear hff hfv;rw [htt] at hal hfe hfm;have hgen:=LG one c p htn h4 hS32 h16;have hXl:=fun t ht=>zH hS32 tn [] (fun x hx=>by cases hx) t ht
  generalize jn c p.aF=S at *
  generalize hX:jo S tn []=X at *
  have hol:oI c p X X.length=some (t0,n0):=by unfold oI;rw [List.take_length,←hal,hfe]
  have ht0:=(hXl t0 hfm).2;have ht32:=(hXl t0 hfm).1;unfold Kx gM at o2 hgen;unfold gM at om;unfold Li at o1
  generalize aI c 0 c.aA.length=m0 at *
  generalize aI c 1 c.aA.length=m1 at *
  generalize aI c 2 c.aA.length=m2 at *
  obtain ⟨tu,d,aw⟩:=p;obtain ⟨p1,p2,p3⟩:=hp;dsimp only at htn p1 p2 p3;subst htn;change Pu one 75 [.ag (aD c),.ag [af (tn:Nat),af d,af aw]] (.tp [.ag [.sl (c.aB.map bE) false,.sl (c.aA.map bS) false,af c.least,af (tn:Nat),af d,af aw,af (m0:Nat),af (m1:Nat),af (m2:Nat)],af 0]) at o1;change Pu one 82 [.ag [.sl (c.aB.map bE) false,.sl (c.aA.map bS) false,af c.least,af (tn:Nat),af d,af aw,af (m0:Nat),af (m1:Nat),af (m2:Nat)]] (.fn 114 [] [.pt [.sl (c.aB.map bE) false,.sl (c.aA.map bS) false,af c.least,af (tn:Nat),af d,af aw,af (m0:Nat),af (m1:Nat),af (m2:Nat)] 0,.pt [.sl (ints (nI S)) false] 0]) at o2;change Eu TT TB one (.fn 114 [] [.pt [.sl (c.aB.map bE) false,.sl (c.aA.map bS) false,af c.least,af (tn:Nat),af d,af aw,af (m0:Nat),af (m1:Nat),af (m2:Nat)] 0,.pt [.sl (ints (nI S)) false] 0]) _ at hgen;change ∀ (t:List Nat) (f:Bool),lW t→(t.length:Int)≤(tn:Int)→Pu one 83 [.ag [.sl (c.aB.map bE) false,.sl (c.aA.map bS) false,af c.least,af (tn:Nat),af d,af aw,af (m0:Nat),af (m1:Nat),af (m2:Nat)],.sl (ints (nI t)) f] (af (lz c (⟨(tn:Int),d,aw⟩:bW) t)) at om;have d0:(!decide ((0:Int)=0))=false:=by decide
  show Pu one 33 [.ag (aD c),.ag [af (tn:Nat),af d,af aw]] _;refine ah.body (fn:=Tryz.f33) rfl rfl rfl rfl ?_;refine RM.iU (mu:=fun t=>Nat.beq t 53) ?_;repeat' first|refine u1 ?_|refine u2 ?_|fail
  refine RM.iU (mu:=fun t=>Nat.beq t 53) ?_;repeat' first|refine u1 ?_|((with_reducible refine qq3 ?_);refine ah.call o1 rfl rfl ?_)|refine u2 ?_|fail
  refine ay.aN (ak.giveUp 1 (l:=[(3,.pt [af (tn:Nat),af d,af aw] 0),(4,.fl (.slice none 0 0)),(5,.ptr 0 0 0),(6,af 0),(7,.pt [.sl (c.aB.map bE) false,.sl (c.aA.map bS) false,af c.least,af (tn:Nat),af d,af aw,af (m0:Nat),af (m1:Nat),af (m2:Nat)] 0)]) (hp:=[.cells [af 0] 0 0,.gone]) rfl (qq5 _) rfl ⟨.same rfl,.same rfl,.same rfl,.same rfl,.ptr,trivial⟩ rfl rfl) ?_;refine RM.cutAt (st':=⟨aT [(3,.pt [af (tn:Nat),af d,af aw] 0),(4,.fl (.slice none 0 0)),(5,.ptr 0 0 0),(6,af 0),(7,.pt [.sl (c.aB.map bE) false,.sl (c.aA.map bS) false,af c.least,af (tn:Nat),af d,af aw,af (m0:Nat),af (m1:Nat),af (m2:Nat)] 0)],[.cells [af 0] 0 0,.gone],bJ.none,false,0⟩) ?_ ?_
  ·refine aa (mu:=fun t=>Nat.beq t 53) ?_;repeat' first|refine u1 ?_|refine u2 ?_|fail
   exact .is (ak.to 2 rfl ⟨rfl,rfl,rfl,rfl,rfl,trivial⟩ (qq5 _) rfl rfl)
  refine RM.iU (mu:=fun t=>Nat.beq t 53) ?_;repeat' first|refine u1 ?_|(refine RM.Mm (n:=tn) rfl rfl rfl ⟨by show 8 * tn≤_;omega,by omega⟩ rfl ?_)|refine u2 ?_|fail
  refine RM.iU (mu:=fun t=>Nat.beq t 53) ?_;repeat' first|refine u1 ?_|refine u2 ?_|fail
  refine ay.seq ?_;refine RM.iU (mu:=fun t=>Nat.beq t 53) ?_;repeat' first|refine u1 ?_|((with_reducible refine qq3 ?_);refine ah.call o2 rfl rfl ?_)|refine u2 ?_|fail
  refine ay.aN (ak.to (l:=[(3,.pt [af (tn:Nat),af d,af aw] 0),(4,.fl (.slice none 0 0)),(5,.ptr 0 0 0),(6,af 0),(7,.pt [.sl (c.aB.map bE) false,.sl (c.aA.map bS) false,af c.least,af (tn:Nat),af d,af aw,af (m0:Nat),af (m1:Nat),af (m2:Nat)] 0),(8,.ptr 3 0 0),(9,.ptr 4 0 0),(27,(.fn 114 [] [.pt [.sl (c.aB.map bE) false,.sl (c.aA.map bS) false,af c.least,af (tn:Nat),af d,af aw,af (m0:Nat),af (m1:Nat),af (m2:Nat)] 0,.pt [.sl (ints (nI S)) false] 0]))]) (hp:=hA tn none) 5 ?_ ⟨rfl,rfl,rfl,rfl,rfl,rfl,rfl,rfl,trivial⟩ (qq5 _) rfl (CQ _ _)) ?_
  ·obtain e|e|e|e:tn=1∨tn=2∨tn=3∨tn=4:=by omega
   all_goals (subst e;rfl)
  refine ay.block ?_;refine ay.JZ (fun i=>hA tn (oI c (⟨(tn:Int),d,aw⟩:bW) X i)) (fun _=>bJ.none) (fun _=>True) rfl hgen (fun i=>I7 _ _) rfl rfl trivial (fun i x hx _=>?_) (fun _=>?_)
  ·obtain ⟨t,hXt,rfl⟩:∃ t,X[i]?=some t∧x=[.sl (ints (nI t)) false]:=by rw [List.getElem?_map,Option.map_eq_some_iff] at hx;obtain ⟨y,h1,h2⟩:=hx;exact ⟨y,h1,h2.symm⟩
   obtain ⟨ht32,htl⟩:=hXl t (List.mem_of_getElem? hXt);rw [List.length_nil,Nat.zero_add] at htl;have om:=om t false ht32 (by omega);have hok:=Hi (c:=c) (p:=(⟨(tn:Int),d,aw⟩:bW)) (fun t ht=>by have:=(hXl t ht).2;rw [List.length_nil,Nat.zero_add] at this;exact this) i;refine ⟨rfl,?_⟩;rw [DF hXt]
   generalize oI c (⟨(tn:Int),d,aw⟩:bW) X i=o at *
   cases o with
   | none =>
    have htl':(ints (nI t)).length=tn:=by rw [List.length_map,List.length_map];exact htl
    have hlr:(List.replicate tn (0:Int)).length=tn:=List.length_replicate ..;have hcl:0 < (av (List.replicate tn (0:Int))).length:=by rw [List.length_map];omega
    have hcl2:0+tn * 1≤(av (List.replicate tn (0:Int))).length:=by rw [List.length_map];omega
    have hsp:=wI (W:=List.replicate tn (0:Int)) (t:=t) (by omega);refine aa (mu:=fun t=>Nat.beq t 53) ?_;repeat' first|refine u1 ?_|refine u2 ?_|fail
    refine aa (mu:=fun t=>Nat.beq t 53) ?_;repeat' first|refine u1 ?_|((with_reducible refine qq3 ?_);refine ah.call om rfl rfl ?_)|(refine RM.Lu (els:=ints (nI t)) (cs:=av (List.replicate tn (0:Int))) rfl rfl rfl (fun el hel=>by obtain ⟨x,_,rfl⟩:=List.mem_map.1 hel;rfl) (yg _) rfl ⟨h4.1,Nat.le_of_eq htl',hcl⟩ hcl2 ?_)|refine u2 ?_|fail
    exact ⟨_,ak.to (l:=[]) (hp:=hA tn (some (t,lz c (⟨(tn:Int),d,aw⟩:bW) t))) 5 (by show _=hA tn (some (t,lz c (⟨(tn:Int),d,aw⟩:bW) t));unfold hA;rw [show bR tn (some (t,lz c (⟨(tn:Int),d,aw⟩:bW) t))=nI t from rfl,←hsp];rfl) trivial (qq6 _) rfl (CQ _ _)⟩
   | some w =>
    obtain ⟨b,n⟩:=w;have hb:b.length=tn:=hok _ rfl;by_cases hlt:lz c (⟨(tn:Int),d,aw⟩:bW) t < n
    ·have d3:decide (lz c (⟨(tn:Int),d,aw⟩:bW) t < n)=true:=decide_eq_true hlt;rw [show wA (some (b,n)) (t,lz c (⟨(tn:Int),d,aw⟩:bW) t)=some (t,lz c (⟨(tn:Int),d,aw⟩:bW) t) from if_pos hlt];have htl':(ints (nI t)).length=tn:=by rw [List.length_map,List.length_map];exact htl
     have hlr:(nI b).length=tn:=by rw [List.length_map];exact hb
     have hcl:0 < (av (nI b)).length:=by rw [List.length_map];omega
     have hcl2:0+tn * 1≤(av (nI b)).length:=by rw [List.length_map];omega
     have hsp:=wI (W:=nI b) (t:=t) (by omega);refine aa (mu:=fun t=>Nat.beq t 53) ?_;repeat' first|refine u1 ?_|refine u2 ?_|fail
     refine aa (mu:=fun t=>Nat.beq t 53) ?_;repeat' first|refine u1 ?_|((with_reducible refine qq3 ?_);refine ah.call om rfl rfl ?_)|(refine RM.Lu (els:=ints (nI t)) (cs:=av (nI b)) rfl rfl rfl (fun el hel=>by obtain ⟨x,_,rfl⟩:=List.mem_map.1 hel;rfl) (yg _) rfl ⟨h4.1,Nat.le_of_eq htl',hcl⟩ hcl2 ?_)|refine u2 ?_|fail
     exact ⟨_,ak.to (l:=[]) (hp:=hA tn (some (t,lz c (⟨(tn:Int),d,aw⟩:bW) t))) 5 (by show _=hA tn (some (t,lz c (⟨(tn:Int),d,aw⟩:bW) t));unfold hA;rw [show bR tn (some (t,lz c (⟨(tn:Int),d,aw⟩:bW) t))=nI t from rfl,←hsp];rfl) trivial (qq6 _) rfl (CQ _ _)⟩
    ·have d3:decide (lz c (⟨(tn:Int),d,aw⟩:bW) t < n)=false:=decide_eq_false hlt;rw [show wA (some (b,n)) (t,lz c (⟨(tn:Int),d,aw⟩:bW) t)=some (b,n) from if_neg hlt];refine aa (mu:=fun t=>Nat.beq t 53) ?_;repeat' first|refine u1 ?_|refine u2 ?_|fail
     refine aa (mu:=fun t=>Nat.beq t 53) ?_;repeat' first|refine u1 ?_|((with_reducible refine qq3 ?_);refine ah.call om rfl rfl ?_)|refine u2 ?_|fail
     exact (ak.refl _).2
  ·rw [List.length_map,hol];repeat' first|refine u1 ?_|refine u2 ?_|fail
   refine aa (mu:=fun t=>Nat.beq t 53) ?_;repeat' first|refine u1 ?_|refine u2 ?_|fail
   refine ay.aN (ak.trans (ak.mP 1) (ak.HM (l:=[(4,.aL 5 0 0 0 0),(5,.ptr 0 0 0),(6,af 0),(43,.aL 2 0 0 tn tn),(44,af (tn:Nat)),(45,af ((0:Nat)))]) (hp:=[.cells [af n0] 0 0,.gone,.cells (av (nI t0)) 1 0,.cells [.aL 2 0 0 tn tn] 0 0,.cells [BB true] 0 0,.cells (dK ((t0.map fj).take 0)) 1 0]) 6 rfl ⟨dI.mO,dI.refl _,dI.refl _,dI.refl _,dI.refl _,dI.refl _,trivial⟩ (qq5 _) rfl (Hj _ _ _ _ _))) ?_;have hTl:(t0.map fj).length=tn:=by rw [List.length_map];simpa using ht0
   refine ay.loop (fun x:Nat × Nat × Nat=>x.1≤tn∧(x.2.2=x.1∨x.2.2=x.1+1)) (fun x=>⟨aT [(4,.aL 5 x.2.1 0 x.1 x.2.2),(5,.ptr 0 0 0),(6,af 0),(43,.aL 2 0 0 tn tn),(44,af (tn:Nat)),(45,af ((x.1:Nat)))],[.cells [af n0] 0 0,.gone,.cells (av (nI t0)) 1 0,.cells [.aL 2 0 0 tn tn] 0 0,.cells [BB true] 0 0,.cells (dK ((t0.map fj).take x.1)) 1 x.2.1],bJ.none,false,0⟩) (fun x=>tn - x.1) ?_ (0,0,0) ⟨qq5 _,.inl rfl⟩;rintro ⟨k,v,cc⟩ ⟨hk,hcap⟩;dsimp only at hk hcap;show ay _ _ _ _ ⟨aT [(4,.aL 5 v 0 k cc),(5,.ptr 0 0 0),(6,af 0),(43,.aL 2 0 0 tn tn),(44,af (tn:Nat)),(45,af ((k:Nat)))],[.cells [af n0] 0 0,.gone,.cells (av (nI t0)) 1 0,.cells [.aL 2 0 0 tn tn] 0 0,.cells [BB true] 0 0,.cells (dK ((t0.map fj).take k)) 1 v],bJ.none,false,0⟩ _;by_cases hlt:k < tn
   ·have dl:decide ((k:Int) < (tn:Int))=true:=decide_eq_true (by omega);have hkt:k < t0.length:=by rw [←List.length_map (f:=fj),hTl];exact hlt
    have g1:(av (nI t0))[0+((k:Nat):Int).toNat * 1]?=some (af ((t0[k]:Nat):Int)):=nP (by rw [List.getElem?_map,List.getElem?_eq_getElem hkt];rfl);have oe:=Ip one t0[k] (ht32 _ (List.getElem_mem hkt));have hsn:(t0.map fj).take (k+1)=(t0.map fj).take k++[fj t0[k]]:=by rw [List.take_add_one,List.getElem?_map,List.getElem?_eq_getElem hkt];rfl
    have hgl:(dK ((t0.map fj).take k)).length=k * 1:=by rw [List.length_map,List.length_take];omega
    generalize t0[k]=a at *
    refine aa (mu:=fun t=>Nat.beq t 53) ?_;repeat' first|refine u1 ?_|((with_reducible show RM.wpOp _ _ (.load _ _) _ _ _);refine RM.cU rfl rfl rfl g1 ?_)|((with_reducible refine qq3 ?_);refine ah.call oe rfl rfl ?_)|((with_reducible show RM.wpOp _ _ (.call _) _ _ _);refine RM.sD (cs:=dK ((t0.map fj).take k)) (n:=k) (els:=[[.sl (ints (fj a)) false]]) rfl rfl rfl rfl rfl (fun el hel=>by rw [List.mem_singleton.1 hel];rfl) rfl rfl hgl hcap (by simp only [List.length_singleton];exact ⟨by show (_+1) * 24≤_;omega,by omega⟩) (fun v' c' hc'=>?_))|refine u2 ?_|fail
    exact ⟨(k+1,v',c'),⟨hlt,hc'⟩,(by dsimp only;omega),ak.to (l:=[(4,.aL 5 v' 0 (k+1) c'),(5,.ptr 0 0 0),(6,af 0),(43,.aL 2 0 0 tn tn),(44,af (tn:Nat)),(45,af (((k+1):Nat)))]) (hp:=[.cells [af n0] 0 0,.gone,.cells (av (nI t0)) 1 0,.cells [.aL 2 0 0 tn tn] 0 0,.cells [BB true] 0 0,.cells (dK ((t0.map fj).take (k+1))) 1 v']) 6 (by rw [hsn];unfold dK;rw [List.map_append];rfl) ⟨rfl,rfl,rfl,rfl,rfl,aH (by simp),trivial⟩ (qq5 _) rfl (Hj _ _ _ _ _)⟩
   ·have dl:decide ((k:Int) < (tn:Int))=false:=decide_eq_false (by omega);have hkn:k=tn:=by omega
    subst hkn;have hall:(t0.map fj).take k=t0.map fj:=List.take_of_length_le (by omega);rw [hall]
    generalize t0.map fj=T at *
    have hr:=zA T;rw [hTl] at hr;refine aa (mu:=fun t=>Nat.beq t 53) ?_;repeat' first|refine u1 ?_|refine u2 ?_|fail
    exact ⟨[_,_,_],⟨Fz.row (es:=1) rfl hr.1 (by rw [List.length_map];exact hTl) (uA T) hr.2.2 (by rw [fZ];exact nR _) (fun h=>Bool.noConfusion h),Fz.deep rfl,Fz.deep rfl,trivial⟩,rfl⟩
 ·have o1:=x8 one c h p he;have d1:(!decide (nQ c p=0))=true:=by rw [decide_eq_false he];rfl
  rw [if_neg he]
  generalize nQ c p=e at *
  refine ah.body (fn:=Tryz.f33) rfl rfl rfl rfl ?_;refine aa (mu:=fun t=>Nat.beq t 53) ?_;repeat' first|refine u1 ?_|((with_reducible refine qq3 ?_);refine ah.call o1 rfl rfl ?_)|refine u2 ?_|fail
  exact ⟨[_,_,_],⟨Fz.nil,Fz.deep rfl,Fz.deep rfl,trivial⟩,rfl⟩
end Go.Proofs.YtlpmfgmldmdggaaGreat
open Go Go.RM
namespace Go.Proofs.YtlpmfgmldmdggaaGreat
set_option maxRecDepth 100000
set_option maxHeartbeats 4000000
theorem I8 (one:Bool) (c:aP) (h:c.Ok) (p:bW):Pu one 45 [.ag (aD c),.ag (bX p)] (BB (decide (nQ c p=0))):=by
 have o0:=ru one c h p
 generalize nQ c p=e at *
 refine ah.body (fn:=Tryz.f45) rfl rfl rfl rfl ?_;refine qq1 ?_;repeat' first|refine u1 ?_|((with_reducible refine qq3 ?_);refine ah.call o0 rfl rfl ?_)|refine u2 ?_|fail
 exact ⟨[_],⟨Fz.deep rfl,trivial⟩,rfl⟩
end Go.Proofs.YtlpmfgmldmdggaaGreat
open Go Go.RM
namespace Go.Proofs.YtlpmfgmldmdggaaGreat
set_option maxRecDepth 100000
set_option maxHeartbeats 4000000
theorem Ky {c:aP} (hg:Good c) {p:bW} (hp:uz p):Bt (lX c p)∧((lX c p).length:Int)=p.turns∧∀ l ∈ lX c p,l.length≤5:=by
 have h:=(zI hg hp).2;have h4:=hp.turns;have h5:∀ l ∈ lX c p,l.length≤5:=fun l hl=>by obtain ⟨a,_,rfl⟩:=List.mem_map.1 hl;exact oA a 5
 have hlen:((lX c p).length:Int)=p.turns:=by unfold lX;rw [List.length_map];exact h
 exact ⟨⟨by simp only [maxLen];omega,fun l hl=>by have:=h5 l hl;simp only [maxLen];omega⟩,hlen,h5⟩
theorem Kz (c:aP) (hg:Good c) {p:bW} (hp:uz p) (x:List Nat):Bt (jq c p x p.turns.toNat)∧((jq c p x p.turns.toNat).length:Int)=p.turns:=by have h4:=hp.turns;have hm:=hg.aA;have hl:=wE c p x p.turns.toNat;exact ⟨⟨by simp only [maxLen];omega,fun l h=>by have:=sP c p x _ l h;simp only [maxLen];omega⟩,by omega⟩
theorem I9 (c:aP) (h:c.Ok) (p:bW) (x:List Nat) (fx:Bool) (hx:x.length≤maxLen):Pu false 13 [.ag (aD c),.ag (bX p),.sl (x.map e8) fx] (BB true):=by
 have o1:=EF false c h p;have o2:=I8 false c h p;have aw:=K9 false;have aw':=K9 true;unfold Kf at o1;by_cases he:nQ c p=0
 ·obtain ⟨hg,hp⟩:=Bn he;rw [if_pos he] at o1;rw [decide_eq_true he] at o2;obtain ⟨hTL,hTp,hT5⟩:=Ky hg hp;have o3:=Ds false c h p (lX c p) false hTL;have hgo:=GQ hg hp he;rw [hgo] at o3;have o4:=GN false c hg p hp (lX c p) false hTL hTp;have hmo:=GR hg hp;have o5:=Iv false c h p (lX c p) false hTL fun l hl=>by have:=hT5 l hl;omega
  rw [hgo,show L7 c p (lX c p)=pT c p (lX c p) c.aA.length from if_pos hgo] at o5;have o6:=Cy true (pT c p (lX c p) c.aA.length) false (by rw [mS];have:=hg.aA;simp only [maxLen];omega) (by rw [mS];have:=hg.aA;omega);rw [hmo] at o4 o6;have o7:=Lw true c h hg p hp x fx hx;obtain ⟨hAL,hAp⟩:=Kz c hg hp x;have o8:=GN true c hg p hp (jq c p x p.turns.toNat) false hAL hAp;have hle:=EC hg hp hAp (yc hp x _);have hol:=mS c p (lX c p) c.aA.length;have em:((c.aA.map bS).length:Int)=c.aA.length:=by simp
  generalize pT c p (lX c p) c.aA.length=A at *
  generalize jq c p x p.turns.toNat=X at *
  generalize Ii (pT c p X c.aA.length)=z at *
  generalize (sO c p).2=n at *
  generalize lX c p=T at *
  have d0:(!decide ((0:Int)=0))=false:=by decide
  have d1:(!decide (n=n))=false:=by simp
  have d2:decide (n=n)=true:=by simp
  have d3:decide (((ints A).length:Int)=((c.aA.map bS).length:Int))=true:=decide_eq_true (by rw [em,List.length_map,hol]);have d4:decide (n≤z)=true:=decide_eq_true hle;refine ah.body (fn:=Tryz.f13) rfl rfl rfl rfl ?_;refine qq1 ?_;repeat' first|refine u1 ?_|((with_reducible refine qq3 ?_);refine ah.call o1 rfl rfl ?_)|((with_reducible refine qq3 ?_);refine ah.call o2 rfl rfl ?_)|((with_reducible refine qq3 ?_);refine ah.call o3 rfl rfl ?_)|((with_reducible refine qq3 ?_);refine ah.call o4 rfl rfl ?_)|((with_reducible refine qq3 ?_);refine ah.call o5 rfl rfl ?_)|((with_reducible refine qq3 ?_);refine ah.call aw rfl rfl ?_)|(refine ⟨_,_,.inl ⟨rfl,rfl⟩,o6,?_⟩)|(refine ⟨_,_,.inl ⟨rfl,rfl⟩,o7,?_⟩)|(refine ⟨_,_,.inl ⟨rfl,rfl⟩,o8,?_⟩)|(refine ⟨_,_,.inl ⟨rfl,rfl⟩,aw',?_⟩)|refine u2 ?_|fail
  exact ⟨[_],⟨Fz.deep rfl,trivial⟩,rfl⟩
 ·rw [if_neg he] at o1;rw [decide_eq_false he] at o2;have d0:(!decide (nQ c p=0))=true:=by rw [decide_eq_false he];rfl
  generalize nQ c p=e at *
  refine ah.body (fn:=Tryz.f13) rfl rfl rfl rfl ?_;refine qq1 ?_;repeat' first|refine u1 ?_|((with_reducible refine qq3 ?_);refine ah.call o1 rfl rfl ?_)|((with_reducible refine qq3 ?_);refine ah.call o2 rfl rfl ?_)|((with_reducible refine qq3 ?_);refine ah.call aw rfl rfl ?_)|refine u2 ?_|fail
  exact ⟨[_],⟨Fz.deep rfl,trivial⟩,rfl⟩
