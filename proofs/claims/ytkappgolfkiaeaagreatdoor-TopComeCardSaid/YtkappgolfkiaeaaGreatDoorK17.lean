/-
  Contracts of the program's functions and of the document's. Lemmas alone; their conditions stand in them.
-/
import Derived.Test.YtkappgolfkiaeaaGreatDoorK16
open Go Go.RM
namespace Go.Proofs.YtkappgolfkiaeaaGreatDoor.St
set_option maxRecDepth 100000
set_option maxHeartbeats 4000000
def oa (ax:List Int) (k:Kind) (row:List Int) (f:List Count) (m p:Int):Int :=
 k.first.lo+bs (fun i=>enough ax k row f false ⟨k.first.lo+(i:Int),m,p⟩) 0 (az k.first)
def ja (ax:List Int) (k:Kind) (row:List Int) (f:List Count) (m p:Int):Int :=
 k.first.lo+bs (fun i=>enough ax k row f true ⟨k.first.lo+(i:Int),m,p⟩) 0 (az k.first) - 1
def l8 (ax:List Int) (k:Kind) (row:List Int) (f:List Count) (m p:Int):Option (aR × aR) :=
 if oa ax k row f m p≤ja ax k row f m p then some (⟨oa ax k row f m p,m,p⟩,⟨ja ax k row f m p,m,p⟩) else none
def nW (ax:List Int) (k:Kind) (row:List Int) (f:List Count) (q:Nat):Option (aR × aR) :=
 l8 ax k row f (k.bp.lo+(q / az k.aD:Nat)) (k.aD.lo+(q % az k.aD:Nat))
def pairs (ax:List Int) (k:Kind) (row:List Int) (f:List Count) (n:Nat):List (aR × aR):=(List.range n).filterMap (nW ax k row f)
def cx (ax:List Int) (k:Kind) (row:List Int) (f:List Count):List (aR × aR):=pairs ax k row f (az k.bp * az k.aD)
abbrev Dp (x:aR × aR):List AV:=[.ag (bC x.1),.ag (bC x.2)]
theorem nM (ax:List Int) (k:Kind) (row:List Int) (f:List Count) (n:Nat):pairs ax k row f (n+1)=pairs ax k row f n++(nW ax k row f n).toList:=by unfold pairs;rw [List.range_succ,List.filterMap_append];cases h:nW ax k row f n <;> simp [h]
theorem Bt (ax:List Int) (k:Kind) (row:List Int) (f:List Count) {n m:Nat} (h:n≤m):∃ l,pairs ax k row f m=pairs ax k row f n++l:=by
 induction h with
 | refl=>exact ⟨[],by simp⟩
 | step _ ih =>obtain ⟨l,hl⟩:=ih;exact ⟨l++(nW ax k row f _).toList,by rw [nM,hl,List.append_assoc]⟩
theorem J4 (ax:List Int) (k:Kind) (row:List Int) (f:List Count) {n m:Nat} (h:n < m) {x:aR × aR} (hx:nW ax k row f n=some x):(pairs ax k row f m)[(pairs ax k row f n).length]?=some x:=by obtain ⟨l,hl⟩:=Bt ax k row f (show n+1≤m from h);rw [hl,nM,hx];simp
theorem J5 (ax:List Int) (k:Kind) (row:List Int) (f:List Count) {m p:Nat} (hp:p < az k.aD):nW ax k row f (m * az k.aD+p)=l8 ax k row f (k.bp.lo+m) (k.aD.lo+p):=by unfold nW;rw [Nat.mul_comm,Nat.mul_add_div (by omega),Nat.div_eq_of_lt hp,Nat.mul_add_mod,Nat.mod_eq_of_lt hp,Nat.add_zero]
theorem oV.run {s:aI} {k:Kind} {row:List Int} {f:List Count} (h:oV s k row f) {n m p:Int} (hn:k.first.lo≤n∧n≤k.first.hi) (hm:k.bp.lo≤m∧m≤k.bp.hi) (hp:k.aD.lo≤p∧p≤k.aD.hi):gI s.ax k row ⟨n,m,p⟩:=by
 have h8:=j6 h.good.sizes;have h1:=h.kind.first
 have h2:=h.kind.bp;have h3:=h.kind.aD;exact ⟨by omega,h.good.ax,h.row,h.kind.room,h.kind.dh,by dsimp only;omega,by dsimp only;omega,by dsimp only;omega⟩
theorem J6 (one:Bool) {s:aI} {k:Kind} {row:List Int} {f:List Count} :
  Pu one 63 [.ag (aM s k row (.sl (f.map aP) false))] (.fn 102 [] [.pt (aM s k row (.sl (f.map aP) false)) 0]):=by
 refine af.body (fn:=Tryz.f63) rfl rfl rfl rfl ?_;refine qq1 ?_;repeat' first|refine ⟨rfl,kr,nL,?_⟩|refine u1 ?_|fail
 exact ⟨[_],⟨Fz.deep rfl,trivial⟩,rfl⟩
theorem J7 (one:Bool) {s:aI} {k:Kind} {row:List Int} {f:List Count} (h:oV s k row f) :
  yM TT TB one (.fn 102 [] [.pt (aM s k row (.sl (f.map aP) false)) 0]) ((cx s.ax k row f).map Dp):=by
 have h30:=h.row.len;have k1:=h.kind.first
 have k2:=h.kind.bp;have k3:=h.kind.aD;have em:((az k.bp:Nat):Int)=k.bp.hi - k.bp.lo+1:=by unfold az;omega
 have ep:((az k.aD:Nat):Int)=k.aD.hi - k.aD.lo+1:=by unfold az;omega
 have ef:((az k.first:Nat):Int)=k.first.hi - k.first.lo+1:=by unfold az;omega
 have hdp:(AV.pt (aM s k row (.sl (f.map aP) false)) 0).deep=true:=rfl;refine yM.body (fn:=Tryz.f102) rfl rfl rfl rfl (fun x hx a ha=>?_) fun u J Stop hy=>?_
 ·obtain ⟨y,_,rfl⟩:=List.mem_map.1 hx;simp only [List.mem_cons,List.not_mem_nil,or_false] at ha
  rcases ha with rfl|rfl
  ·exact gZ.ag fun b hb=>by simp only [List.mem_cons,List.not_mem_nil,or_false] at hb;rcases hb with rfl|rfl|rfl <;> exact gZ.fl _
  ·exact gZ.ag fun b hb=>by simp only [List.mem_cons,List.not_mem_nil,or_false] at hb;rcases hb with rfl|rfl|rfl <;> exact gZ.fl _
 rw [List.length_map];refine qq1 ?_;repeat' first|refine u1 ?_|refine u2 ?_|fail
 rw [←em,show J 0=J (pairs s.ax k row f (0 * az k.aD)).length by rw [Nat.zero_mul];rfl];refine aE.aS (ai.to (l:=[(0,.oq u),(1,.pt (aM s k row (.sl (f.map aP) false)) 0),(18,av (az k.bp)),(19,av ((0:Nat):Int))]) (hp:=[]) 0 rfl ⟨rfl,rfl,rfl,rfl,trivial⟩ (qq5 _) rfl rfl) ?_;refine aE.loop (fun m:Nat=>m≤az k.bp) (fun m=>⟨bA [(0,.oq u),(1,.pt (aM s k row (.sl (f.map aP) false)) 0),(18,av (az k.bp)),(19,av (m:Int))],[],J (pairs s.ax k row f (m * az k.aD)).length,false,0⟩) (fun m=>az k.bp - m) ?_ 0 (qq5 _);intro m hm;refine qq1 ?_;repeat' first|refine u1 ?_|fail
 refine RM.e1 rfl ⟨fun hc=>?_,fun hc=>?_⟩
 ·have hm1:m < az k.bp:=by simpa using hc
  repeat' first|refine u1 ?_|refine u2 ?_|fail
  rw [←ep];refine aE.aS (ai.to (l:=[(0,.oq u),(1,.pt (aM s k row (.sl (f.map aP) false)) 0),(3,av m),(18,av (az k.bp)),(19,av m),(31,av (az k.aD)),(32,av ((0:Nat):Int))]) (hp:=[]) 0 rfl ⟨rfl,rfl,rfl,rfl,rfl,rfl,rfl,trivial⟩ (qq5 _) rfl rfl) ?_;refine aE.loop (fun p:Nat=>p≤az k.aD) (fun p=>⟨bA [(0,.oq u),(1,.pt (aM s k row (.sl (f.map aP) false)) 0),(3,av m),(18,av (az k.bp)),(19,av m),(31,av (az k.aD)),(32,av (p:Int))],[],J (pairs s.ax k row f (m * az k.aD+p)).length,false,0⟩) (fun p=>az k.aD - p) ?_ 0 (qq5 _);intro p hp;refine qq2 ?_;repeat' first|refine u1 ?_|fail
  refine qq2 ?_;refine RM.e1 rfl ⟨fun hc=>?_,fun hc=>?_⟩
  ·have hp1:p < az k.aD:=by simpa using hc
   have hq:m * az k.aD+p < az k.bp * az k.aD:=by have:(m+1) * az k.aD≤az k.bp * az k.aD:=Nat.mul_le_mul_right _ hm1;rw [Nat.add_mul,Nat.one_mul] at this;omega
   have hus:=J5 s.ax k row f (m:=m) hp1;have hsucc:=nM s.ax k row f (m * az k.aD+p);have hat:=fun x=>J4 s.ax k row f hq (x:=x);rw [hus] at hsucc hat;have hrun:∀ n:Int,k.first.lo≤n∧n≤k.first.hi→gI s.ax k row ⟨n,k.bp.lo+m,k.aD.lo+p⟩:=fun n hn=>h.run hn (by omega) (by omega)
   have hle:=fun b=>NH true 104 [] [.pt (aM s k row (.sl (f.map aP) false)) 0,.pt (bC ⟨0,k.bp.lo+m,k.aD.lo+p⟩) 0,.pt [BB b] 0] rfl k.first.lo (az k.first) (by omega) (by omega) (fun n=>enough s.ax k row f b ⟨n,k.bp.lo+m,k.aD.lo+p⟩) (fun i hi=>J3 true b h ⟨0,k.bp.lo+m,k.aD.lo+p⟩ (k.first.lo+i) (hrun _ (by omega)))
   rw [show k.first.lo+(az k.first:Int) - 1=k.first.hi by omega] at hle;have hlo:oa s.ax k row f (k.bp.lo+m) (k.aD.lo+p)=k.first.lo+bs (fun i=>enough s.ax k row f false ⟨k.first.lo+(i:Int),k.bp.lo+m,k.aD.lo+p⟩) 0 (az k.first):=rfl
   have hhi:ja s.ax k row f (k.bp.lo+m) (k.aD.lo+p)=k.first.lo+bs (fun i=>enough s.ax k row f true ⟨k.first.lo+(i:Int),k.bp.lo+m,k.aD.lo+p⟩) 0 (az k.first) - 1:=rfl
   have hb1:=(sN (fun i=>enough s.ax k row f true ⟨k.first.lo+(i:Int),k.bp.lo+m,k.aD.lo+p⟩) 0 (az k.first) (qq5 _)).2;have hl0:=hle false;have hl1:=hle true;rw [←hlo] at hl0;generalize bs (fun i=>enough s.ax k row f true ⟨k.first.lo+(i:Int),k.bp.lo+m,k.aD.lo+p⟩) 0 (az k.first)=r1 at hl1 hhi hb1;repeat' first|refine u1 ?_|fail
   refine aE.seq ?_;refine aE.block ?_;refine qq2 ?_;repeat' first|refine u1 ?_|fail
   refine qq2 ?_;repeat' first|refine u1 ?_|refine u2 ?_|fail
   refine aE.aS (ai.giveUp 0 (l:=[(0,.oq u),(1,.pt (aM s k row (.sl (f.map aP) false)) 0),(3,av m),(5,.pt (bC ⟨0,k.bp.lo+m,k.aD.lo+p⟩) 0),(18,av (az k.bp)),(19,av m),(31,av (az k.aD)),(32,av (p:Int))]) (hp:=[.gone]) rfl (qq6 _) rfl ⟨.same rfl,.same rfl,.same rfl,.ptr,.same rfl,.same rfl,.same rfl,.same rfl,trivial⟩ rfl rfl) ?_;refine qq1 ?_;repeat' first|refine ⟨_,_,.inl ⟨rfl,rfl⟩,Dn true false _ _,?_⟩|refine ⟨_,_,.inl ⟨rfl,rfl⟩,Dn true true _ _,?_⟩|refine ⟨_,_,.inl ⟨rfl,rfl⟩,hl0,?_⟩|refine ⟨_,_,.inl ⟨rfl,rfl⟩,hl1,?_⟩|refine u1 ?_ |with_reducible refine RM.I2 rfl ?_|refine u2 ?_|fail
   rw [←hhi];by_cases hd:oa s.ax k row f (k.bp.lo+m) (k.aD.lo+p)≤ja s.ax k row f (k.bp.lo+m) (k.aD.lo+p)
   ·have hdd:=decide_eq_true hd;have hpa:l8 s.ax k row f (k.bp.lo+m) (k.aD.lo+p)=some (⟨oa s.ax k row f (k.bp.lo+m) (k.aD.lo+p),k.bp.lo+m,k.aD.lo+p⟩,⟨ja s.ax k row f (k.bp.lo+m) (k.aD.lo+p),k.bp.lo+m,k.aD.lo+p⟩):=by unfold l8;rw [if_pos hd]
    have hx:=hat _ hpa;have e1:(pairs s.ax k row f (m * az k.aD+(p+1))).length=(pairs s.ax k row f (m * az k.aD+p)).length+1:=by rw [←Nat.add_assoc,hsucc,hpa];simp
    repeat' first|refine u1 ?_|refine u2 ?_|fail
    have hyx:=hy _ (Dp (⟨oa s.ax k row f (k.bp.lo+m) (k.aD.lo+p),k.bp.lo+m,k.aD.lo+p⟩,⟨ja s.ax k row f (k.bp.lo+m) (k.aD.lo+p),k.bp.lo+m,k.aD.lo+p⟩)) (by rw [List.getElem?_map];exact congrArg (Option.map Dp) hx);refine aB.mono (hyx _) (fun a hp' amb' hq=>?_);obtain ⟨rfl,b,rfl,hb⟩:=hq
    rcases hb with ⟨rfl,rfl⟩|⟨rfl,hstop⟩
    ·repeat' first|refine u1 ?_|fail
     refine qq1 ?_;repeat' first|refine u1 ?_|fail
     refine ⟨p+1,hp1,(by dsimp only;omega),?_⟩;show ai _ ⟨bA [(0,.oq u),(1,.pt (aM s k row (.sl (f.map aP) false)) 0),(3,av m),(18,av (az k.bp)),(19,av m),(31,av (az k.aD)),(32,av ((p+1:Nat):Int))],[],J (pairs s.ax k row f (m * az k.aD+(p+1))).length,false,0⟩;rw [e1];exact ai.to 0 rfl ⟨rfl,rfl,rfl,rfl,rfl,rfl,aJ (by simp),trivial⟩ (qq5 _) rfl rfl
    ·repeat' first|refine u1 ?_|fail
     exact Or.inr hstop
   ·have hdd:=decide_eq_false hd;have hpa:l8 s.ax k row f (k.bp.lo+m) (k.aD.lo+p)=none:=by unfold l8;rw [if_neg hd]
    have e1:(pairs s.ax k row f (m * az k.aD+(p+1))).length=(pairs s.ax k row f (m * az k.aD+p)).length:=by rw [←Nat.add_assoc,hsucc,hpa];simp
    repeat' first|refine u1 ?_|fail
    refine qq1 ?_;repeat' first|refine u1 ?_|fail
    refine ⟨p+1,hp1,(by dsimp only;omega),?_⟩;show ai _ ⟨bA [(0,.oq u),(1,.pt (aM s k row (.sl (f.map aP) false)) 0),(3,av m),(18,av (az k.bp)),(19,av m),(31,av (az k.aD)),(32,av ((p+1:Nat):Int))],[],J (pairs s.ax k row f (m * az k.aD+(p+1))).length,false,0⟩;rw [e1];exact ai.to 0 rfl ⟨rfl,rfl,rfl,rfl,rfl,rfl,aJ (by simp),trivial⟩ (qq5 _) rfl rfl
  ·have hp0:¬ p < az k.aD:=by simpa using hc
   have hp1:p=az k.aD:=by omega
   subst hp1;repeat' first|refine u1 ?_|refine u2 ?_|fail
   refine ⟨m+1,hm1,(by dsimp only;omega),?_⟩;show ai _ ⟨bA [(0,.oq u),(1,.pt (aM s k row (.sl (f.map aP) false)) 0),(18,av (az k.bp)),(19,av ((m+1:Nat):Int))],[],J (pairs s.ax k row f ((m+1) * az k.aD)).length,false,0⟩;rw [Nat.add_mul,Nat.one_mul];exact ai.to 0 rfl ⟨rfl,rfl,rfl,aJ (by simp),trivial⟩ (qq5 _) rfl rfl
 ·have hm0:¬ m < az k.bp:=by simpa using hc
  have hm1:m=az k.bp:=by omega
  subst hm1;repeat' first|refine u1 ?_|fail
  exact Or.inl rfl
theorem qn {s:aI} {k:Kind} {row:List Int} {c:List (List AV)} {b:Bool} {l:List AV} (h:bG l=true):bG (.ag (aM s k row (.sl c b)) :: l)=true:=by show ((AV.ag (aM s k row (.sl c b))).deep && bG l)=true;rw [kU rfl,h];rfl
theorem Ui {own:Bool} {fr:Nat→AV} {hp:List AB} {K:AV→List AB→Prop} {x:Operand} {s:aI} {k:Kind} {row:List Int} {c:AV} (h:row.length=30) (hx:bq fr x=.pt (aM s k row c) 0) (hk:K (.ag (aM s k row c)) hp):RM.wpOp TT own (.load 105 x) fr hp K:=by show eF TT 105 (bq fr x) hp K;rw [hx];refine And.intro (by rw [ew h];exact qq6 _) ?_;rw [mR h];exact hk
theorem NJ {L:List (aR × aR)} {i:Nat} {x:List AV} (h:(L.map Dp)[i]?=some x):∃ y,L[i]?=some y∧x=Dp y:=by rw [List.getElem?_map,Option.map_eq_some_iff] at h;obtain ⟨y,h1,h2⟩:=h;exact ⟨y,h1,h2.symm⟩
theorem NK (one:Bool) {s:aI} {k:Kind} {row:List Int} {cnts:List (List AV)} {t:aR} {down:Int} (h:gI s.ax k row t) :
  Pu one 83 [.ag (aM s k row (.sl cnts false)),.ag (bC t),av down] (av (cm s.ax k row t down s.ax.length)):=by
 have h30:=h.row.len;have hr:=On one s k row cnts t down h;refine af.body (fn:=Tryz.f83) rfl rfl rfl rfl ?_;refine qq1 ?_;repeat' first|refine ⟨rfl,kr,nL,?_⟩|refine Ui h30 rfl ?_|refine u1 ?_|refine u2 ?_|refine af.call hr rfl (qn rfl) ?_|fail
 exact ⟨[_],⟨Fz.deep rfl,trivial⟩,rfl⟩
structure NL where
 t:aR
 day:Int
 e:Int
def kW (sh:aR→Int) (x:NL) (y:aR × aR):NL:=if sh y.1 < x.day∨sh y.1=x.day∧y.1.first < x.t.first then ⟨y.1,sh y.1,0⟩ else x
def hU (n:Nat) (sh:aR→Int) (L:List (aR × aR)):NL:=L.foldl (kW sh) ⟨⟨0,0,0⟩,(n:Int)+1,9⟩
def bJ (ax:List Int) (k:Kind) (row:List Int) (t:aR):Int:=cm ax k row t ax.length ax.length
theorem Dq {s:aI} {k:Kind} {row:List Int} {f:List Count} (h:oV s k row f) {y:aR × aR} (hy:y ∈ cx s.ax k row f) :
  (gI s.ax k row y.1∧gI s.ax k row y.2)∧(k.first.lo≤y.1.first∧y.1.first≤y.2.first∧y.2.first≤k.first.hi)∧(k.bp.lo≤y.1.bp∧y.1.bp≤k.bp.hi∧y.2.bp=y.1.bp)∧(k.aD.lo≤y.1.aD∧y.1.aD≤k.aD.hi∧y.2.aD=y.1.aD):=by
 have k1:=h.kind.first
 have k2:=h.kind.bp;have k3:=h.kind.aD;unfold cx pairs at hy;rw [List.mem_filterMap] at hy;obtain ⟨q,hq,hy⟩:=hy;rw [List.mem_range] at hq;unfold nW l8 at hy;split at hy
 ·rename_i hle;cases hy;have hpos:0 < az k.aD:=by unfold az;omega
  have h1:q / az k.aD < az k.bp:=Nat.div_lt_of_lt_mul (by rw [Nat.mul_comm];exact hq);have h2:=Nat.mod_lt q hpos;have em:((az k.bp:Nat):Int)=k.bp.hi - k.bp.lo+1:=by unfold az;omega
  have ep:((az k.aD:Nat):Int)=k.aD.hi - k.aD.lo+1:=by unfold az;omega
  have ef:((az k.first:Nat):Int)=k.first.hi - k.first.lo+1:=by unfold az;omega
  have b1:=(sN (fun i=>enough s.ax k row f false ⟨k.first.lo+(i:Int),k.bp.lo+(q / az k.aD:Nat),k.aD.lo+(q % az k.aD:Nat)⟩) 0 (az k.first) (qq5 _)).2;have b2:=(sN (fun i=>enough s.ax k row f true ⟨k.first.lo+(i:Int),k.bp.lo+(q / az k.aD:Nat),k.aD.lo+(q % az k.aD:Nat)⟩) 0 (az k.first) (qq5 _)).2;have c1:oa s.ax k row f (k.bp.lo+(q / az k.aD:Nat)) (k.aD.lo+(q % az k.aD:Nat))=k.first.lo+bs (fun i=>enough s.ax k row f false ⟨k.first.lo+(i:Int),k.bp.lo+(q / az k.aD:Nat),k.aD.lo+(q % az k.aD:Nat)⟩) 0 (az k.first):=rfl
  have c2:ja s.ax k row f (k.bp.lo+(q / az k.aD:Nat)) (k.aD.lo+(q % az k.aD:Nat))=k.first.lo+bs (fun i=>enough s.ax k row f true ⟨k.first.lo+(i:Int),k.bp.lo+(q / az k.aD:Nat),k.aD.lo+(q % az k.aD:Nat)⟩) 0 (az k.first) - 1:=rfl
  generalize bs (fun i=>enough s.ax k row f false ⟨k.first.lo+(i:Int),k.bp.lo+(q / az k.aD:Nat),k.aD.lo+(q % az k.aD:Nat)⟩) 0 (az k.first)=r1 at b1 c1;generalize bs (fun i=>enough s.ax k row f true ⟨k.first.lo+(i:Int),k.bp.lo+(q / az k.aD:Nat),k.aD.lo+(q % az k.aD:Nat)⟩) 0 (az k.first)=r2 at b2 c2
  generalize q / az k.aD=m at *
  generalize q % az k.aD=p at *
  refine ⟨⟨h.run (by omega) (by omega) (by omega),h.run (by omega) (by omega) (by omega)⟩,by dsimp only;omega,by dsimp only;omega,by dsimp only;omega⟩
 ·cases hy
theorem E6 (one:Bool) {s:aI} {k:Kind} {row:List Int} {f:List Count} (h:oV s k row f) :
  Pu one 45 [.ag (aM s k row (.sl (f.map aP) false))] (.tp [.ag (bC (hU s.ax.length (bJ s.ax k row) (cx s.ax k row f)).t),av (hU s.ax.length (bJ s.ax k row) (cx s.ax k row f)).day,av (hU s.ax.length (bJ s.ax k row) (cx s.ax k row f)).e]):=by
 have em:((s.ax.map eI).length:Int)=s.ax.length:=by simp
 have h8:=j6 h.good.sizes;have h30:=h.row.len;have htr:=J6 one (s:=s) (k:=k) (row:=row) (f:=f);have hg:=J7 one h;have hsh:=fun (y:aR × aR) (hy:y ∈ cx s.ax k row f)=>NK (one:=one) (cnts:=f.map aP) (down:=s.ax.length) (Dq h hy).1.1;rw [←em] at hsh;generalize cx s.ax k row f=L at hg hsh ⊢;have hst:∀ i,hU s.ax.length (bJ s.ax k row) (L.take i)=(L.take i).foldl (kW (bJ s.ax k row)) ⟨⟨0,0,0⟩,(s.ax.length:Int)+1,9⟩:=fun _=>rfl;refine af.body (fn:=Tryz.f45) rfl rfl rfl rfl ?_;refine qq2 ?_;repeat' first|refine ⟨rfl,kr,nL,?_⟩|refine u1 ?_|refine u2 ?_|fail
 refine qq2 ?_;repeat' first|refine u1 ?_|refine u2 ?_|fail
 refine qq2 ?_;repeat' first|refine Ui h30 rfl ?_|refine u1 ?_|refine af.call htr rfl (qn rfl) ?_|fail
 rw [em];refine aE.range (fun i=>[.cells (bC (hU s.ax.length (bJ s.ax k row) (L.take i)).t) 0 0,.cells [av (hU s.ax.length (bJ s.ax k row) (L.take i)).day] 0 0,.cells [av (hU s.ax.length (bJ s.ax k row) (L.take i)).e] 0 0]) (fun _=>cz.none) (fun _=>True) rfl hg rfl rfl trivial (fun i x hx _=>?_) (fun _=>?_)
 ·obtain ⟨y,hy,rfl⟩:=NJ hx;have hsh:=hsh y (List.mem_of_getElem? hy);have hn:hU s.ax.length (bJ s.ax k row) (L.take (i+1))=kW (bJ s.ax k row) (hU s.ax.length (bJ s.ax k row) (L.take i)) y:=Hz hy;rw [hn]
  generalize hU s.ax.length (bJ s.ax k row) (L.take i)=z at *
  rw [show cm s.ax k row y.1 ((s.ax.map eI).length:Int) s.ax.length=bJ s.ax k row y.1 by rw [em];rfl] at hsh;unfold kW
  generalize bJ s.ax k row y.1=n at *
  refine ⟨rfl,?_⟩;refine qq1 ?_;repeat' first|refine u1 ?_|refine u2 ?_|fail
  refine qq1 ?_;repeat' first|refine Ui h30 rfl ?_|refine u1 ?_|refine u2 ?_|refine af.call hsh rfl (qn rfl) ?_|fail
  by_cases h1:n < z.day
  ·have d1:=decide_eq_true h1;rw [if_pos (Or.inl h1)];repeat' first|refine u1 ?_|refine u2 ?_|fail
   exact ⟨_,ai.to (l:=[]) 3 rfl trivial (qq6 _) rfl rfl⟩
  ·have d1:=decide_eq_false h1;by_cases h2:n=z.day
   ·have d2:=decide_eq_true h2;by_cases h3:y.1.first < z.t.first
    ·have d3:=decide_eq_true h3;rw [if_pos (Or.inr ⟨h2,h3⟩)];repeat' first|refine u1 ?_|refine u2 ?_|fail
     exact ⟨_,ai.to (l:=[]) 3 rfl trivial (qq6 _) rfl rfl⟩
    ·have d3:=decide_eq_false h3;rw [if_neg (fun h=>h.elim h1 fun h=>h3 h.2)];repeat' first|refine u1 ?_|refine u2 ?_|fail
     exact ⟨_,ai.to (l:=[]) 3 rfl trivial (qq6 _) rfl rfl⟩
   ·have d2:=decide_eq_false h2;rw [if_neg (fun h=>h.elim h1 fun h=>h2 h.1)];repeat' first|refine u1 ?_|refine u2 ?_|fail
    exact ⟨_,ai.to (l:=[]) 3 rfl trivial (qq6 _) rfl rfl⟩
 ·rw [List.take_of_length_le (by simp)];repeat' first|refine u1 ?_|fail
  refine qq1 ?_;repeat' first|refine u1 ?_ |with_reducible refine RM.I2 rfl ?_|refine u2 ?_|fail
  exact ⟨[_,_,_],⟨Fz.deep rfl,Fz.deep rfl,Fz.deep rfl,trivial⟩,rfl⟩
def ug (s:aI) (c:Count):Int :=
 if bS 0 ((s.kinds.length:Int) - 1) [c.kind] then 4
 else if bS 0 (s.ax.length:Int) [c.day] || bS 0 600 [c.cC.lo,c.cC.hi] then 7
 else if decide (c.cC.hi < c.cC.lo) then 2 else 0
def E7 (s:aI) (l:List Count) (i:Nat):Int:=match l[i]? with|some c=>ug s c|none=>0
def gV (s:aI) (l:List Count):Int :=
 if (gv s).2.2 ≠ 0 then (gv s).2.2 else if 8 < (l.length:Int) then 3 else (bx l.length (E7 s l)).2
theorem E8 (s:aI) (i:Int) (c:Count) (hk:s.kinds.length≤maxLen) (one:Bool):af TT TB one (.fn 113 [] [.pt (aN s) 0]) [av i,.ag (aP c)] (av (ug s c)):=by
 unfold maxLen at hk;unfold ug;have e1:((s.kinds.map cA).length:Int)=s.kinds.length:=by simp
 have e2:((s.ax.map eI).length:Int)=s.ax.length:=by simp
 refine af.body (fn:=Tryz.f113) rfl rfl rfl rfl ?_;refine qq1 ?_;repeat' first|refine u1 ?_|refine u2 ?_|refine af.call (iy one _ _ _ _ rfl (Nat.le_of_ble_eq_true rfl)) rfl rfl ?_|((with_reducible show cG _ _ _ _ _);refine qp rfl rfl (fun h=>?_) (fun h=>?_))|((with_reducible show me _ _ _ _ (.cond _ _ _) _ _);refine RM.e1 rfl ⟨fun h=>?_,fun h=>?_⟩)|fail
 all_goals refine ⟨[_],⟨Fz.deep rfl,trivial⟩,aJ ?_⟩
 all_goals simp_all [sP,Bl]
theorem HF (one:Bool) (s:aI) (h:s.Ok) (l:List Count) (hl:l.length≤maxLen):Pu one 69 [.ag (aN s),.sl (l.map aP) false] (av (gV s l)):=by
 have hc:=A3 s h one
 have c3:=ET one 113 [] [.pt (aN s) 0] rfl (E7 s l) l false hl (fun i hi=>by
  unfold E7;simp only [List.getElem?_eq_getElem hi]
  exact E8 s i _ h.kinds one)
 have el:((l.map aP).length:Int)=l.length:=by simp
 unfold gV;generalize gv s=c at hc ⊢;generalize bx l.length (E7 s l)=r at c3 ⊢;by_cases h1:c.2.2=0
 ·rw [h1] at hc;rw [if_neg (by simpa using h1)];by_cases h2:8 < (l.length:Int)
  ·have d2:decide ((8:Int) < ((l.map aP).length:Int))=true:=by rw [el];exact decide_eq_true h2
   rw [if_pos h2];refine af.body (fn:=Tryz.f69) rfl rfl rfl rfl ?_;refine qq1 ?_;repeat' first|refine u1 ?_|refine u2 ?_|refine af.call hc rfl rfl ?_|fail
   exact ⟨[_],⟨Fz.deep rfl,trivial⟩,rfl⟩
  ·have d2:decide ((8:Int) < ((l.map aP).length:Int))=false:=by rw [el];exact decide_eq_false h2
   rw [if_neg h2];refine af.body (fn:=Tryz.f69) rfl rfl rfl rfl ?_;refine qq1 ?_;repeat' first|refine u1 ?_|refine u2 ?_|refine af.call hc rfl rfl ?_|refine af.call c3 rfl rfl ?_|fail
   exact ⟨[_],⟨Fz.deep rfl,trivial⟩,rfl⟩
 ·have d1:(!decide (c.2.2=0))=true:=by simpa using h1
  rw [if_pos h1];refine af.body (fn:=Tryz.f69) rfl rfl rfl rfl ?_;refine qq1 ?_;repeat' first|refine u1 ?_|refine u2 ?_|refine af.call hc rfl rfl ?_|fail
  exact ⟨[_],⟨Fz.deep rfl,trivial⟩,rfl⟩
theorem zI {s:aI} {l:List Count} (h:gV s l=0):Good s∧l.length≤8∧∀ c ∈ l,(0≤c.kind∧c.kind < s.kinds.length)∧(0≤c.day∧c.day≤s.ax.length)∧(0≤c.cC.lo∧c.cC.lo≤c.cC.hi∧c.cC.hi≤600):=by
 unfold gV at h;by_cases h1:(gv s).2.2=0
 ·rw [if_neg (by simpa using h1)] at h;by_cases h2:8 < (l.length:Int)
  ·rw [if_pos h2] at h;exact absurd h (by decide)
  ·rw [if_neg h2] at h;refine ⟨xH h1,by omega,fun c hc=>?_⟩;obtain ⟨i,hi,rfl⟩:=List.getElem_of_mem hc;have:=eP h i hi;unfold E7 at this;simp only [List.getElem?_eq_getElem hi] at this;unfold ug at this;split at this
   ·exact absurd this (by decide)
   ·rename_i h4;split at this
    ·exact absurd this (by decide)
    ·rename_i h7;split at this
     ·exact absurd this (by decide)
     ·rename_i h3;simp only [Bool.not_eq_true,Bool.or_eq_false_iff,jt,decide_eq_false_iff_not,List.mem_cons,List.not_mem_nil,or_false,forall_eq_or_imp,forall_eq] at h4 h7 h3;omega
 ·rw [if_pos h1] at h;exact absurd h h1
def bP (l:List Count) (i:Nat):List Count:=l.filter (fun c=>decide (c.kind=(i:Int)))
theorem E9 {s:aI} {l:List Count} (h:gV s l=0) {i:Nat} (hi:i < s.kinds.length):oV s s.kinds[i] (ay i s.au) (bP l i):=by
 obtain ⟨hg,hl,hc⟩:=zI h;refine ⟨hg,hg.kinds _ (List.getElem_mem hi),hg.row i,fun c hx=>?_,?_⟩
 ·exact (hc c ((List.mem_filter.1 hx).1)).2.1
 ·have:=List.length_filter_le (fun c=>decide (c.kind=(i:Int))) l;unfold bP;omega
theorem J8 (one:Bool) (s:aI) (h:s.Ok) (l:List Count) (h0:gV s l=0) (i:Nat) (hi:i < s.kinds.length) :
  Pu one 44 [.ag (aN s),.sl (l.map aP) false,av i] (.tp [.ag (aM s s.kinds[i] (ay i s.au) (.sl ((bP l i).map aP) false)),av 0]):=by
 obtain ⟨hg,hl,hc⟩:=zI h0;have hh:=E9 h0 hi;have h30:=hh.row.len;have h8:=j6 hg.sizes;have hcn:=HF one s h l (by unfold maxLen;omega);rw [h0] at hcn;have ek:((s.kinds.map cA).length:Int)=s.kinds.length:=by simp
 have hop:=Qo one s l false i hi (fun c hc=>by have:=hg.au c hc;omega) h8.2.2 (by omega);have hou:=iy one 0 (((s.kinds.map cA).length:Int) - 1) [eI i] true rfl (Nat.le_of_ble_eq_true rfl);rw [show bS 0 (((s.kinds.map cA).length:Int) - 1) ([eI (i:Int)].map I3)=false by rw [ek];show bS 0 ((s.kinds.length:Int) - 1) [(i:Int)]=false;rw [aX,dA.2 (by omega)];rfl] at hou;refine af.body (fn:=Tryz.f44) rfl rfl rfl (qn rfl) ?_;refine qq1 ?_;repeat' first|refine ⟨_,_,rfl,rfl,kr,ew h30,Nat.le_of_ble_eq_true rfl,?_⟩|refine u1 ?_|refine u2 ?_|refine af.call hcn rfl rfl ?_|refine af.call hou rfl rfl ?_|refine af.call hop rfl rfl ?_|fail
 rw [zH h30 (by rfl)];repeat' first|(refine ⟨_,_,rfl,(by rw [ew h30];exact qq6 _),?_⟩)|fail
 rw [mR h30];exact ⟨[_,_],⟨Fz.deep (kU (c:=.sl _ false) rfl),Fz.deep rfl,trivial⟩,rfl⟩
def Dr (lv:List Int) (c:Count):Bool:=iC (lv.getD c.day.toNat 0) c.cC.lo c.cC.hi
def Qs (ax:List Int) (k:Kind) (row:List Int) (l:List Count) (i:Nat) (t:aR):Bool:=l.all fun c=>!decide (c.kind=(i:Int)) || Dr (lvl ax k row t) c
def Bu (k:Kind) (q:Nat):aR:=⟨k.first.lo+(q / az k.aD / az k.bp:Nat),k.bp.lo+(q / az k.aD % az k.bp:Nat),k.aD.lo+(q % az k.aD:Nat)⟩
def Ga (ax:List Int) (k:Kind) (row:List Int) (l:List Count) (i:Nat) (n:Nat):List aR:=((List.range n).map (Bu k)).filter (Qs ax k row l i)
def lS (ax:List Int) (k:Kind) (row:List Int) (l:List Count) (i:Nat):List aR:=Ga ax k row l i (az k.first * az k.bp * az k.aD)
theorem zJ (k:Kind) {a m p:Nat} (hm:m < az k.bp) (hp:p < az k.aD):Bu k ((a * az k.bp+m) * az k.aD+p)=⟨k.first.lo+a,k.bp.lo+m,k.aD.lo+p⟩:=by unfold Bu;rw [Nat.mul_comm _ (az k.aD),Nat.mul_add_div (by omega),Nat.div_eq_of_lt hp,Nat.mul_add_mod,Nat.mod_eq_of_lt hp,Nat.add_zero,Nat.mul_comm a,Nat.mul_add_div (by omega),Nat.div_eq_of_lt hm,Nat.mul_add_mod,Nat.mod_eq_of_lt hm,Nat.add_zero]
end Go.Proofs.YtkappgolfkiaeaaGreatDoor.St
