/-
  Contracts of the program's functions and of the document's. Lemmas alone; their conditions stand in them.
-/
import Derived.Test.YtlpmfgmldmdggaaGreatK5
open Go Go.RM
namespace Go.Proofs.YtlpmfgmldmdggaaGreat
set_option maxRecDepth 100000
set_option maxHeartbeats 4000000
def fG (l:List Int) (p:Nat):Int:=l.getD p 0
theorem ku {l:List Int} {q:Nat} (h:q < l.length):l[q]?=some (fG l q):=by unfold fG;rw [List.getD_eq_getElem?_getD,List.getElem?_eq_getElem h];rfl
theorem pR {l:List Int} {k:Nat} (h:k < l.length):(ints l)[((k:Nat):Int).toNat]?=some (eI (fG l k)):=by rw [dm h];have:=ku h;rw [List.getElem?_eq_getElem h] at this;rw [Option.some.inj this]
def rC (l:List Int):Bool:=(List.range (l.length - 1)).any fun j=>decide (fG l (j+1)≤fG l j)
def lu (c:aP) (r k:Nat):Nat:=(List.range k).countP fun m=>decide (gy c m=r)
def oH (c:aP) (l:List Int) (r k:Nat):Nat:=(List.range k).countP fun m=>decide (gy c m=r) && gL l (m:Nat)
theorem Eo (c:aP) (r k:Nat):lu c r (k+1)=lu c r k+if gy c k=r then 1 else 0:=by
 unfold lu;rw [List.range_succ,List.countP_append];by_cases h:gy c k=r
 ·rw [if_pos h];simp [h]
 ·rw [if_neg h];simp [h]
theorem Ep (c:aP) (l:List Int) (r k:Nat):oH c l r (k+1)=oH c l r k+if gy c k=r∧gL l (k:Nat)=true then 1 else 0:=by
 unfold oH;rw [List.range_succ,List.countP_append];by_cases h:gy c k=r
 ·by_cases h2:gL l (k:Nat)=true
  ·rw [if_pos ⟨h,h2⟩];simp [h,h2]
  ·rw [if_neg (fun hh=>h2 hh.2)];simp [h,h2]
 ·rw [if_neg (fun hh=>h hh.1)];simp [h]
theorem Ij (c:aP) (r k:Nat):lu c r k≤k:=by
 unfold lu;have:=List.countP_le_length (p:=fun m=>decide (gy c m=r)) (l:=List.range k)
 rwa [List.length_range] at this
theorem Ik (c:aP) (l:List Int) (r k:Nat):oH c l r k≤k:=by
 unfold oH;have:=List.countP_le_length (p:=fun m=>decide (gy c m=r) && gL l (m:Nat)) (l:=List.range k)
 rwa [List.length_range] at this
def kz (c:aP) (l:List Int) (r:Nat):Bool:=decide (0 < lu c r c.aA.length) && decide (oH c l r c.aA.length=lu c r c.aA.length)
def jG (c:aP) (l:List Int):Bool:=(List.range c.aB.length).any fun r=>kz c l r
def Er (c:aP) (l:List Int):Int:=if jG c l=true then 8 else 0
def Es (c:aP) (b l:List Int):Int:=if (l.any fun x=>gL b x)=true then 5 else Er c l
def Et (c:aP) (w:Int) (b l:List Int):Int:=if w < l.length then 3 else Es c b l
def Bs (c:aP) (w:Int) (b l:List Int):Int:=if rC l=true then 2 else Et c w b l
def ja (c:aP) (w:Int) (b l:List Int):Int:=if fU 0 ((c.aA.length:Int) - 1) l=true then 4 else Bs c w b l
noncomputable def MV:Code:=Tryz.f93.body.getD .skip
noncomputable def JV:Code:=rm (rm MV)
noncomputable def JW:Code:=rm JV
noncomputable def Il:Code:=rm JW
noncomputable def Lj:Code:=rm Il
theorem Ll (one:Bool) (c:aP) (hg:Good c) (p:bW) (b l:List Int) (fb fl:Bool) (_hb:b.length≤maxLen) (hl:l.length≤maxLen):ay TT TB one Lj ⟨aT [(2,.sl (ints b) fb),(3,.sl (ints l) fl),(4,.pt (aD c) 0),(5,.pt (bX p) 0)],[],bJ.none,false,0⟩ (A9 TT Tryz.f93.results.toList (af (Er c l))):=by
 have em:((c.aA.map bS).length:Int)=c.aA.length:=by simp
 have eg:((c.aB.map bE).length:Int)=c.aB.length:=by simp
 have hm5:=hg.aA;have hr3:=hg.aB;refine qq1 ?_;show kA _ _ _ _ (.seq (.seq (.region _ _ false) _) _) _ _;repeat' first|refine u1 ?_|refine u2 ?_|fail
 refine ay.aN (ak.to (l:=[(2,.sl (ints b) fb),(3,.sl (ints l) fl),(4,.pt (aD c) 0),(5,.pt (bX p) 0),(12,af (0:Nat))]) (hp:=[]) 0 rfl ⟨rfl,rfl,rfl,rfl,rfl,trivial⟩ (qq5 _) rfl rfl) ?_;refine ay.loop (fun k:Nat=>k≤c.aB.length∧∀ r,r < k→kz c l r=false) (fun k=>⟨aT [(2,.sl (ints b) fb),(3,.sl (ints l) fl),(4,.pt (aD c) 0),(5,.pt (bX p) 0),(12,af (k:Nat))],[],bJ.none,false,0⟩) (fun k=>c.aB.length - k) ?_ 0 ⟨qq5 _,fun r hr=>absurd hr (Nat.not_lt_zero r)⟩;rintro k ⟨hk,hno⟩;by_cases hlt:k < c.aB.length
 ·have dl:decide ((k:Int) < ((c.aB.map bE).length:Int))=true:=decide_eq_true (by omega);refine qq1 ?_;repeat' first|refine u1 ?_|refine u2 ?_|fail
  refine ay.aN (ak.to (l:=[(2,.sl (ints b) fb),(3,.sl (ints l) fl),(4,.pt (aD c) 0),(5,.pt (bX p) 0),(12,af (k:Nat)),(13,af (lu c k 0:Nat)),(14,af (oH c l k 0:Nat)),(15,af (0:Nat))]) (hp:=[]) 0 rfl ⟨rfl,rfl,rfl,rfl,rfl,rfl,rfl,rfl,trivial⟩ (qq5 _) rfl rfl) ?_;refine ay.loop (fun m:Nat=>m≤c.aA.length) (fun m=>⟨aT [(2,.sl (ints b) fb),(3,.sl (ints l) fl),(4,.pt (aD c) 0),(5,.pt (bX p) 0),(12,af (k:Nat)),(13,af (lu c k m:Nat)),(14,af (oH c l k m:Nat)),(15,af (m:Nat))],[],bJ.none,false,0⟩) (fun m=>c.aA.length - m) ?_ 0 (qq5 _);intro m hm;have b1:=Ij c k m;have b2:=Ik c l k m;by_cases hmt:m < c.aA.length
  ·have d2:decide ((m:Int) < ((c.aA.map bS).length:Int))=true:=decide_eq_true (by omega);obtain ⟨mn,rk,w,ms,ra,rb,rc,rd,e,hmt2,hrt,hrk,hb1,hb2,h01,h02,hrk2⟩:=rz hg (k:=m) hmt;have hra:gy c m=rk.toNat:=by unfold gy;rw [hrk2];rfl
   have s1:=Eo c k m;have s2:=Ep c l k m;rw [hra] at s1 s2;have o1:=Jq one l fl hl (m:Nat)
   generalize lu c k m=x at *
   generalize oH c l k m=y at *
   cases e1:decide (rk=(k:Int)) with
   | false =>
    have hne:¬ rk.toNat=k:=by have:=of_decide_eq_false e1;omega
    rw [if_neg hne] at s1;rw [if_neg (fun hh=>hne hh.1)] at s2;refine qq1 ?_;repeat' first|refine u1 ?_|(refine ⟨[ST mn,af rk,af w,BB ms],⟨by omega,hmt2⟩,rfl,?_⟩)|refine u2 ?_|fail
    exact ⟨m+1,hmt,(by dsimp only;omega),ak.to 0 rfl ⟨rfl,rfl,rfl,rfl,rfl,aH (by rw [s1];rfl),aH (by rw [s2];rfl),aH (by simp),trivial⟩ (qq5 _) rfl rfl⟩
   | true =>
    have he:rk.toNat=k:=by have:=of_decide_eq_true e1;omega
    rw [if_pos he] at s1
    cases e2:gL l (m:Nat) with
    | false =>
     rw [e2] at o1 s2;rw [if_neg (fun hh=>Bool.noConfusion hh.2)] at s2;refine qq1 ?_;repeat' first|((with_reducible refine qq3 ?_);refine ah.call o1 rfl rfl ?_)|refine u1 ?_|(refine ⟨[ST mn,af rk,af w,BB ms],⟨by omega,hmt2⟩,rfl,?_⟩)|refine u2 ?_|fail
     exact ⟨m+1,hmt,(by dsimp only;omega),ak.to 0 rfl ⟨rfl,rfl,rfl,rfl,rfl,aH (by rw [s1];rfl),aH (by rw [s2];rfl),aH (by simp),trivial⟩ (qq5 _) rfl rfl⟩
    | true =>
     rw [e2] at o1 s2;rw [if_pos ⟨he,rfl⟩] at s2;refine qq1 ?_;repeat' first|((with_reducible refine qq3 ?_);refine ah.call o1 rfl rfl ?_)|refine u1 ?_|(refine ⟨[ST mn,af rk,af w,BB ms],⟨by omega,hmt2⟩,rfl,?_⟩)|refine u2 ?_|fail
     exact ⟨m+1,hmt,(by dsimp only;omega),ak.to 0 rfl ⟨rfl,rfl,rfl,rfl,rfl,aH (by rw [s1];rfl),aH (by rw [s2];rfl),aH (by simp),trivial⟩ (qq5 _) rfl rfl⟩
  ·have d2:decide ((m:Int) < ((c.aA.map bS).length:Int))=false:=decide_eq_false (by omega);have hmn:m=c.aA.length:=by omega
   subst hmn;have hrg:kz c l k=(decide (0 < lu c k c.aA.length) && decide (oH c l k c.aA.length=lu c k c.aA.length)):=rfl;have hall:kz c l k=true→jG c l=true:=fun h=>List.any_eq_true.2 ⟨k,List.mem_range.2 hlt,h⟩
   generalize lu c k c.aA.length=x at *
   generalize oH c l k c.aA.length=y at *
   cases e1:decide ((0:Int) < (x:Int)) with
   | false =>
    have f1:decide (0 < x)=false:=decide_eq_false (by have:=of_decide_eq_false e1;omega);rw [f1] at hrg;refine qq1 ?_;repeat' first|refine u1 ?_|refine u2 ?_|fail
    exact ⟨k+1,⟨hlt,fun r hr=>by
     by_cases h:r=k
     ·rw [h];exact hrg
     ·exact hno r (by omega)⟩,(by dsimp only;omega),ak.to 0 rfl ⟨rfl,rfl,rfl,rfl,aH (by simp),trivial⟩ (qq5 _) rfl rfl⟩
   | true =>
    have f1:decide (0 < x)=true:=decide_eq_true (by have:=of_decide_eq_true e1;omega);rw [f1] at hrg
    cases e2:decide ((y:Int)=(x:Int)) with
    | false =>
     have f2:decide (y=x)=false:=decide_eq_false (by have:=of_decide_eq_false e2;omega);rw [f2] at hrg;refine qq1 ?_;repeat' first|refine u1 ?_|refine u2 ?_|fail
     exact ⟨k+1,⟨hlt,fun r hr=>by
      by_cases h:r=k
      ·rw [h];exact hrg
      ·exact hno r (by omega)⟩,(by dsimp only;omega),ak.to 0 rfl ⟨rfl,rfl,rfl,rfl,aH (by simp),trivial⟩ (qq5 _) rfl rfl⟩
    | true =>
     have f2:decide (y=x)=true:=decide_eq_true (by have:=of_decide_eq_true e2;omega);rw [f2] at hrg;have hz:=hall hrg;have hv:Er c l=8:=by unfold Er;rw [if_pos hz]
     rw [hv];refine qq1 ?_;repeat' first|refine u1 ?_|refine u2 ?_|fail
     exact ⟨[_],⟨Fz.deep rfl,trivial⟩,rfl⟩
 ·have dl:decide ((k:Int) < ((c.aB.map bE).length:Int))=false:=decide_eq_false (by omega);have hv:Er c l=0:=by unfold Er;rw [if_neg];intro h;obtain ⟨r,h1,h2⟩:=List.any_eq_true.1 h;have:=List.mem_range.1 h1;rw [hno r (by omega)] at h2;cases h2
  rw [hv];refine qq1 ?_;repeat' first|refine u1 ?_|refine u2 ?_|fail
  exact ⟨[_],⟨Fz.deep rfl,trivial⟩,rfl⟩
theorem Lm (one:Bool) (c:aP) (hg:Good c) (p:bW) (b l:List Int) (fb fl:Bool) (_hb:b.length≤maxLen) (hl:l.length≤maxLen):ay TT TB one Il ⟨aT [(2,.sl (ints b) fb),(3,.sl (ints l) fl),(4,.pt (aD c) 0),(5,.pt (bX p) 0)],[],bJ.none,false,0⟩ (A9 TT Tryz.f93.results.toList (af (Es c b l))):=by
 have el:((ints l).length:Int)=l.length:=by simp
 have hl':l.length≤maxLen:=hl;simp only [maxLen] at hl';show ay TT TB one (.seq (.seq (.region _ _ false) _) Lj) _ _;refine RM.sL ⟨aT [(2,.sl (ints b) fb),(3,.sl (ints l) fl),(4,.pt (aD c) 0),(5,.pt (bX p) 0)],[],bJ.none,false,0⟩ (Es c b l=Er c l) ?_ (fun hv=>by rw [hv];exact Ll one c hg p b l fb fl _hb hl);refine qq1 ?_;repeat' first|refine u1 ?_|refine u2 ?_|fail
 refine ay.aN (ak.to (l:=[(2,.sl (ints b) fb),(3,.sl (ints l) fl),(4,.pt (aD c) 0),(5,.pt (bX p) 0),(11,af (0:Nat))]) (hp:=[]) 0 rfl ⟨rfl,rfl,rfl,rfl,rfl,trivial⟩ (qq5 _) rfl rfl) ?_;refine ay.loop (fun k:Nat=>k≤l.length∧∀ j,j < k→gL b (fG l j)=false) (fun k=>⟨aT [(2,.sl (ints b) fb),(3,.sl (ints l) fl),(4,.pt (aD c) 0),(5,.pt (bX p) 0),(11,af (k:Nat))],[],bJ.none,false,0⟩) (fun k=>l.length - k) ?_ 0 ⟨qq5 _,fun r hr=>absurd hr (Nat.not_lt_zero r)⟩;rintro k ⟨hk,hno⟩;by_cases hlt:k < l.length
 ·have dl:decide ((k:Int) < ((ints l).length:Int))=true:=decide_eq_true (by omega);have hat:=pR hlt;have hmem:=List.mem_of_getElem? (ku hlt);have hall:gL b (fG l k)=true→(l.any fun x=>gL b x)=true:=fun h=>List.any_eq_true.2 ⟨_,hmem,h⟩
  have hnx:gL b (fG l k)=false→∀ j,j < k+1→gL b (fG l j)=false:=fun h j hj=>by
   by_cases e:j=k
   ·rw [e];exact h
   ·exact hno j (by omega)
  generalize fG l k=z at *
  have o1:=Jq one b fb _hb z
  cases e:gL b z with
  | true =>
   rw [e] at o1;have hv:Es c b l=5:=by unfold Es;rw [if_pos (hall e)]
   rw [hv];refine qq1 ?_;repeat' first|((with_reducible refine qq3 ?_);refine ah.call o1 rfl rfl ?_)|refine u1 ?_|(refine ⟨[af z],⟨by omega,hat⟩,rfl,?_⟩)|refine u2 ?_|fail
   exact ⟨[_],⟨Fz.deep rfl,trivial⟩,rfl⟩
  | false =>
   rw [e] at o1;refine qq1 ?_;repeat' first|((with_reducible refine qq3 ?_);refine ah.call o1 rfl rfl ?_)|refine u1 ?_|(refine ⟨[af z],⟨by omega,hat⟩,rfl,?_⟩)|refine u2 ?_|fail
   exact ⟨k+1,⟨hlt,hnx e⟩,(by dsimp only;omega),ak.to 0 rfl ⟨rfl,rfl,rfl,rfl,aH (by simp),trivial⟩ (qq5 _) rfl rfl⟩
 ·have dl:decide ((k:Int) < ((ints l).length:Int))=false:=decide_eq_false (by omega);have hv:Es c b l=Er c l:=by unfold Es;rw [if_neg];intro h;obtain ⟨x,h1,h2⟩:=List.any_eq_true.1 h;obtain ⟨j,hj,hjx⟩:=List.getElem_of_mem h1;have h3:=ku hj;rw [List.getElem?_eq_getElem hj] at h3;have h4:=hno j (by omega);rw [←Option.some.inj h3,hjx,h2] at h4;cases h4
  refine qq1 ?_;repeat' first|refine u1 ?_|refine u2 ?_|fail
  exact .is (ak.to (l:=[(2,.sl (ints b) fb),(3,.sl (ints l) fl),(4,.pt (aD c) 0),(5,.pt (bX p) 0)]) (hp:=[]) 0 rfl ⟨rfl,rfl,rfl,rfl,trivial⟩ (qq5 _) rfl rfl) hv
theorem Ln (one:Bool) (c:aP) (hg:Good c) (p:bW) (b l:List Int) (fb fl:Bool) (_hb:b.length≤maxLen) (hl:l.length≤maxLen):ay TT TB one JW ⟨aT [(2,.sl (ints b) fb),(3,.sl (ints l) fl),(4,.pt (aD c) 0),(5,.pt (bX p) 0)],[],bJ.none,false,0⟩ (A9 TT Tryz.f93.results.toList (af (Et c p.aF b l))):=by
 have el:((ints l).length:Int)=l.length:=by simp
 by_cases h:p.aF < l.length
 ·have d1:decide (p.aF < ((ints l).length:Int))=true:=decide_eq_true (by omega);have hv:Et c p.aF b l=3:=by unfold Et;rw [if_pos h]
  rw [hv];refine qq1 ?_;show kA _ _ _ _ (.seq (.seq (.region _ _ false) _) Il) _ _;repeat' first|refine u1 ?_|refine u2 ?_|fail
  exact ⟨[_],⟨Fz.deep rfl,trivial⟩,rfl⟩
 ·have d1:decide (p.aF < ((ints l).length:Int))=false:=decide_eq_false (by omega);have hv:Et c p.aF b l=Es c b l:=by unfold Et;rw [if_neg h]
  rw [hv];show ay TT TB one (.seq (.seq (.region _ _ false) _) Il) _ _;refine RM.cutAt (st':=⟨aT [(2,.sl (ints b) fb),(3,.sl (ints l) fl),(4,.pt (aD c) 0),(5,.pt (bX p) 0)],[],bJ.none,false,0⟩) ?_ (Lm one c hg p b l fb fl _hb hl);refine qq1 ?_;repeat' first|refine u1 ?_|refine u2 ?_|fail
  exact .is (ak.to (l:=[(2,.sl (ints b) fb),(3,.sl (ints l) fl),(4,.pt (aD c) 0),(5,.pt (bX p) 0)]) (hp:=[]) 0 rfl ⟨rfl,rfl,rfl,rfl,trivial⟩ (qq5 _) rfl rfl)
theorem Lo (one:Bool) (c:aP) (hg:Good c) (p:bW) (b l:List Int) (fb fl:Bool) (_hb:b.length≤maxLen) (hl:l.length≤maxLen):ay TT TB one JV ⟨aT [(2,.sl (ints b) fb),(3,.sl (ints l) fl),(4,.pt (aD c) 0),(5,.pt (bX p) 0)],[],bJ.none,false,0⟩ (A9 TT Tryz.f93.results.toList (af (Bs c p.aF b l))):=by
 have el:((ints l).length:Int)=l.length:=by simp
 have hl':l.length≤maxLen:=hl;simp only [maxLen] at hl';show ay TT TB one (.seq (.seq (.region _ _ false) _) JW) _ _;refine RM.sL ⟨aT [(2,.sl (ints b) fb),(3,.sl (ints l) fl),(4,.pt (aD c) 0),(5,.pt (bX p) 0)],[],bJ.none,false,0⟩ (Bs c p.aF b l=Et c p.aF b l) ?_ (fun hv=>by rw [hv];exact Ln one c hg p b l fb fl _hb hl);refine qq1 ?_;repeat' first|refine u1 ?_|refine u2 ?_|fail
 refine ay.aN (ak.to (l:=[(2,.sl (ints b) fb),(3,.sl (ints l) fl),(4,.pt (aD c) 0),(5,.pt (bX p) 0),(10,af ((0:Nat)+1))]) (hp:=[]) 0 rfl ⟨rfl,rfl,rfl,rfl,rfl,trivial⟩ (qq5 _) rfl rfl) ?_;refine ay.loop (fun k:Nat=>k≤l.length - 1∧∀ j,j < k→¬ fG l (j+1)≤fG l j) (fun k=>⟨aT [(2,.sl (ints b) fb),(3,.sl (ints l) fl),(4,.pt (aD c) 0),(5,.pt (bX p) 0),(10,af ((k:Nat)+1))],[],bJ.none,false,0⟩) (fun k=>l.length - k) ?_ 0 ⟨qq5 _,fun r hr=>absurd hr (Nat.not_lt_zero r)⟩;rintro k ⟨hk,hno⟩;by_cases hlt:k+1 < l.length
 ·have dl:decide ((k:Int)+1 < ((ints l).length:Int))=true:=decide_eq_true (by omega);have hat:=pR (show k < l.length by omega);have hat2:=pR hlt;have hall:fG l (k+1)≤fG l k→rC l=true:=fun h=>List.any_eq_true.2 ⟨k,List.mem_range.2 (by omega),decide_eq_true h⟩
  have hnx:¬ fG l (k+1)≤fG l k→∀ j,j < k+1→¬ fG l (j+1)≤fG l j:=fun h j hj=>by
   by_cases e:j=k
   ·rw [e];exact h
   ·exact hno j (by omega)
  generalize fG l k=z at *
  generalize fG l (k+1)=y at *
  have e1:((k:Int)+1).toNat=(((k+1:Nat)):Int).toNat:=by omega
  have e2:((k:Int)+1 - 1).toNat=((k:Nat):Int).toNat:=by omega
  rw [←e1] at hat2;rw [←e2] at hat
  cases e:decide (y≤z) with
  | true =>
   have hv:Bs c p.aF b l=2:=by unfold Bs;rw [if_pos (hall (of_decide_eq_true e))]
   rw [hv];refine qq1 ?_;repeat' first|refine u1 ?_|(refine ⟨[af y],⟨by omega,hat2⟩,rfl,?_⟩)|(refine ⟨[af z],⟨by omega,hat⟩,rfl,?_⟩)|refine u2 ?_|fail
   exact ⟨[_],⟨Fz.deep rfl,trivial⟩,rfl⟩
  | false =>
   refine qq1 ?_;repeat' first|refine u1 ?_|(refine ⟨[af y],⟨by omega,hat2⟩,rfl,?_⟩)|(refine ⟨[af z],⟨by omega,hat⟩,rfl,?_⟩)|refine u2 ?_|fail
   exact ⟨k+1,⟨by omega,hnx (of_decide_eq_false e)⟩,(by dsimp only;omega),ak.to 0 rfl ⟨rfl,rfl,rfl,rfl,aH (by simp),trivial⟩ (qq5 _) rfl rfl⟩
 ·have dl:decide ((k:Int)+1 < ((ints l).length:Int))=false:=decide_eq_false (by omega);have hv:Bs c p.aF b l=Et c p.aF b l:=by unfold Bs;rw [if_neg];intro h;obtain ⟨j,h1,h2⟩:=List.any_eq_true.1 h;have:=List.mem_range.1 h1;exact hno j (by omega) (of_decide_eq_true h2)
  refine qq1 ?_;repeat' first|refine u1 ?_|refine u2 ?_|fail
  exact .is (ak.to (l:=[(2,.sl (ints b) fb),(3,.sl (ints l) fl),(4,.pt (aD c) 0),(5,.pt (bX p) 0)]) (hp:=[]) 0 rfl ⟨rfl,rfl,rfl,rfl,trivial⟩ (qq5 _) rfl rfl) hv
theorem JX (one:Bool) (c:aP) (hg:Good c) (p:bW) (b l:List Int) (fb fl:Bool) (_hb:b.length≤maxLen) (hl:l.length≤maxLen):Pu one 93 [.ag (aD c),.ag (bX p),.sl (ints b) fb,.sl (ints l) fl] (af (ja c p.aF b l)):=by
 have em:((c.aA.map bS).length:Int)=c.aA.length:=by simp
 have el:((ints l).length:Int)=l.length:=by simp
 have hm5:=hg.aA;have hl':l.length≤maxLen:=hl;simp only [maxLen] at hl';refine ah.body (fn:=Tryz.f93) rfl rfl rfl rfl ?_;show ay TT TB one (.seq (.region _ _ _) (.seq (.seq (.region _ _ _) _) JV)) _ _;refine qq2 ?_;repeat' first|refine u1 ?_|refine u2 ?_|fail
 refine RM.sL ⟨aT [(2,.sl (ints b) fb),(3,.sl (ints l) fl),(4,.pt (aD c) 0),(5,.pt (bX p) 0)],[],bJ.none,false,0⟩ (ja c p.aF b l=Bs c p.aF b l) ?_ (fun hv=>by rw [hv];exact Lo one c hg p b l fb fl _hb hl);refine qq1 ?_;repeat' first|refine u1 ?_|refine u2 ?_|fail
 refine ay.aN (ak.to (l:=[(2,.sl (ints b) fb),(3,.sl (ints l) fl),(4,.pt (aD c) 0),(5,.pt (bX p) 0),(9,af (0:Nat))]) (hp:=[]) 0 rfl ⟨rfl,rfl,rfl,rfl,rfl,trivial⟩ (qq5 _) rfl rfl) ?_;refine ay.loop (fun k:Nat=>k≤l.length∧∀ j,j < k→jK (fG l j) 0 ((c.aA.length:Int) - 1)=true) (fun k=>⟨aT [(2,.sl (ints b) fb),(3,.sl (ints l) fl),(4,.pt (aD c) 0),(5,.pt (bX p) 0),(9,af (k:Nat))],[],bJ.none,false,0⟩) (fun k=>l.length - k) ?_ 0 ⟨qq5 _,fun r hr=>absurd hr (Nat.not_lt_zero r)⟩;rintro k ⟨hk,hno⟩;by_cases hlt:k < l.length
 ·have dl:decide ((k:Int) < ((ints l).length:Int))=true:=decide_eq_true (by omega);have hat:=pR hlt;have hmem:=List.mem_of_getElem? (ku hlt)
  have hall:jK (fG l k) 0 ((c.aA.length:Int) - 1)=false→fU 0 ((c.aA.length:Int) - 1) l=true:=fun h=>List.any_eq_true.2 ⟨_,hmem,by
   have h2:=cM (fG l k) 0 ((c.aA.length:Int) - 1);rw [h] at h2;unfold fU at h2
   simpa using h2⟩
  have hnx:jK (fG l k) 0 ((c.aA.length:Int) - 1)=true→∀ j,j < k+1→jK (fG l j) 0 ((c.aA.length:Int) - 1)=true:=fun h j hj=>by
   by_cases e:j=k
   ·rw [e];exact h
   ·exact hno j (by omega)
  generalize fG l k=z at *
  have o1:=iM true z 0 ((c.aA.length:Int) - 1);rw [←em] at o1
  cases e:jK z 0 ((c.aA.length:Int) - 1) with
  | false =>
   rw [em,e,←em] at o1;have hv:ja c p.aF b l=4:=by unfold ja;rw [if_pos (hall e)]
   rw [hv];refine qq1 ?_;repeat' first|(refine ⟨_,_,.inl ⟨rfl,rfl⟩,o1,?_⟩)|refine u1 ?_|(refine ⟨[af z],⟨by omega,hat⟩,rfl,?_⟩)|refine u2 ?_|fail
   exact ⟨[_],⟨Fz.deep rfl,trivial⟩,rfl⟩
  | true =>
   rw [em,e,←em] at o1;refine qq1 ?_;repeat' first|(refine ⟨_,_,.inl ⟨rfl,rfl⟩,o1,?_⟩)|refine u1 ?_|(refine ⟨[af z],⟨by omega,hat⟩,rfl,?_⟩)|refine u2 ?_|fail
   exact ⟨k+1,⟨hlt,hnx e⟩,(by dsimp only;omega),ak.to 0 rfl ⟨rfl,rfl,rfl,rfl,aH (by simp),trivial⟩ (qq5 _) rfl rfl⟩
 ·have dl:decide ((k:Int) < ((ints l).length:Int))=false:=decide_eq_false (by omega);have hv:ja c p.aF b l=Bs c p.aF b l:=by unfold ja;rw [if_neg];intro h;obtain ⟨x,h1,h2⟩:=List.any_eq_true.1 h;obtain ⟨j,hj,hjx⟩:=List.getElem_of_mem h1;have h3:=ku hj;rw [List.getElem?_eq_getElem hj] at h3;have h4:=fO.1 (hno j (by omega));rw [←Option.some.inj h3,hjx] at h4;simp only [Bool.or_eq_true,decide_eq_true_eq] at h2;omega
  refine qq1 ?_;repeat' first|refine u1 ?_|refine u2 ?_|fail
  exact .is (ak.to (l:=[(2,.sl (ints b) fb),(3,.sl (ints l) fl),(4,.pt (aD c) 0),(5,.pt (bX p) 0)]) (hp:=[]) 0 rfl ⟨rfl,rfl,rfl,rfl,trivial⟩ (qq5 _) rfl rfl) hv
end Go.Proofs.YtlpmfgmldmdggaaGreat
open Go Go.RM
namespace Go.Proofs.YtlpmfgmldmdggaaGreat
set_option maxRecDepth 100000
set_option maxHeartbeats 4000000
abbrev eL (l:List Int):List AV:=[.sl (ints l) false]
abbrev dK (L:List (List Int)):List AV:=L.map fun l=>.sl (ints l) false
theorem fZ:∀ L:List (List Int),(L.map eL).flatten=dK L
 | []=>rfl
 | l :: L=>by rw [List.map_cons,List.flatten_cons,fZ L];rfl
theorem nR (L:List (List Int)):cV (dK L)=true:=sJ (fun _=>rfl) L
theorem Im (L:List (List Int)):(dK L).all AV.one=true:=by rw [List.all_map,List.all_eq_true];intro x _;rfl
theorem ia (L:List (List Int)) (v:Nat):([.cells (dK L) 1 v]:List AB).all (AB.gZ 1)=true:=by have h:AB.gZ 1 (.cells (dK L) 1 v)=true:=eC 1 (fun _=>rfl) _;simp only [List.all_cons,List.all_nil,h,Bool.and_true]
theorem uA (L:List (List Int)):∀ el ∈ L.map eL,el.length=1:=fun el hel=>by obtain ⟨x,_,rfl⟩:=List.mem_map.1 hel;rfl
theorem zA (L:List (List Int)):(0:Nat)+L.length * 1≤(dK L).length∧(L.map eL).length=L.length∧(L.map eL).flatten=((dK L).drop 0).take (L.length * 1):=by refine ⟨by rw [List.length_map];omega,List.length_map _,?_⟩;rw [fZ,List.drop_zero,List.take_of_length_le (by rw [List.length_map];omega)]
end Go.Proofs.YtlpmfgmldmdggaaGreat
open Go Go.RM
namespace Go.Proofs.YtlpmfgmldmdggaaGreat
set_option maxRecDepth 100000
set_option maxHeartbeats 4000000
def rD (a b:Int):Int:=if a < b then -1 else if b < a then 1 else 0
theorem Gs (one:Bool) (a:Int):Pu one 109 [af a] (BB false):=by
 refine ah.body (fn:=Tryz.f109) rfl rfl rfl rfl ?_;refine qq1 ?_;repeat' first|refine u1 ?_|refine u2 ?_|fail
 exact ⟨[_],⟨Fz.deep rfl,trivial⟩,by show AV.fl (.bool (!decide (a=a)))=_;rw [decide_eq_true rfl];rfl⟩
theorem Ew (one:Bool) (a b:Int):Pu one 69 [af a,af b] (af (rD a b)):=by
 have o1:=Gs one a;have o2:=Gs one b;unfold rD
 cases e1:decide (a < b) with
 | true =>
  rw [if_pos (of_decide_eq_true e1)];refine ah.body (fn:=Tryz.f69) rfl rfl rfl rfl ?_;refine qq1 ?_;repeat' first|refine u1 ?_|((with_reducible refine qq3 ?_);refine ah.call o1 rfl rfl ?_)|((with_reducible refine qq3 ?_);refine ah.call o2 rfl rfl ?_)|refine u2 ?_|fail
  exact ⟨[_],⟨Fz.deep rfl,trivial⟩,rfl⟩
 | false =>
  rw [if_neg (of_decide_eq_false e1)]
  cases e2:decide (b < a) with
  | true =>
   rw [if_pos (of_decide_eq_true e2)];refine ah.body (fn:=Tryz.f69) rfl rfl rfl rfl ?_;refine qq1 ?_;repeat' first|refine u1 ?_|((with_reducible refine qq3 ?_);refine ah.call o1 rfl rfl ?_)|((with_reducible refine qq3 ?_);refine ah.call o2 rfl rfl ?_)|refine u2 ?_|fail
   exact ⟨[_],⟨Fz.deep rfl,trivial⟩,rfl⟩
  | false =>
   rw [if_neg (of_decide_eq_false e2)];refine ah.body (fn:=Tryz.f69) rfl rfl rfl rfl ?_;refine qq1 ?_;repeat' first|refine u1 ?_|((with_reducible refine qq3 ?_);refine ah.call o1 rfl rfl ?_)|((with_reducible refine qq3 ?_);refine ah.call o2 rfl rfl ?_)|refine u2 ?_|fail
   exact ⟨[_],⟨Fz.deep rfl,trivial⟩,rfl⟩
end Go.Proofs.YtlpmfgmldmdggaaGreat
open Go Go.RM
namespace Go.Proofs.YtlpmfgmldmdggaaGreat
set_option maxRecDepth 100000
set_option maxHeartbeats 4000000
def tM (a:Nat):Nat→List Int
 | 0=>[]
 | k+1=>if ((a / 2 ^ k % 2:Nat):Int)=1 then tM a k++[(k:Int)] else tM a k
theorem oA (a:Nat):∀ k,(tM a k).length≤k
 | 0=>qq6 _
 | k+1=>by
  have:=oA a k;unfold tM;split
  ·rw [List.length_append];simp only [List.length_singleton];omega
  ·omega
def fj (a:Nat):List Int:=tM a 5
theorem Ip (one:Bool) (a:Nat) (ha:a < 32):Pu one 84 [af (a:Nat)] (.sl (ints (fj a)) false):=by
 refine ah.body (fn:=Tryz.f84) rfl rfl rfl rfl ?_;refine aa (mu:=fun t=>Nat.beq t 15) ?_;repeat' first|refine u1 ?_|refine u2 ?_|fail
 refine ay.aN (ak.trans (ak.mP 1) (ak.HM (l:=[(0,af (a:Nat)),(2,.aL 0 ((0,0,0):Nat × Nat × Nat).2.1 0 (tM a ((0,0,0):Nat × Nat × Nat).1).length ((0,0,0):Nat × Nat × Nat).2.2),(4,af (((0,0,0):Nat × Nat × Nat).1:Nat))]) (hp:=[.cells (av (tM a ((0,0,0):Nat × Nat × Nat).1)) 1 ((0,0,0):Nat × Nat × Nat).2.1]) 1 rfl ⟨dI.refl _,dI.mO,dI.refl _,trivial⟩ (qq5 _) rfl (ax _ _))) ?_;refine ay.loop (fun x:Nat × Nat × Nat=>x.1≤5∧(x.2.2=(tM a x.1).length∨x.2.2=(tM a x.1).length+1)) (fun x=>⟨aT [(0,af (a:Nat)),(2,.aL 0 x.2.1 0 (tM a x.1).length x.2.2),(4,af (x.1:Nat))],[.cells (av (tM a x.1)) 1 x.2.1],bJ.none,false,0⟩) (fun x=>5 - x.1) ?_ (0,0,0) ⟨qq5 _,.inl rfl⟩;rintro ⟨k,v,cc⟩ ⟨hk,hcap⟩;dsimp only at hk hcap;show ay _ _ _ _ ⟨aT [(0,af (a:Nat)),(2,.aL 0 ((k,v,cc):Nat × Nat × Nat).2.1 0 (tM a ((k,v,cc):Nat × Nat × Nat).1).length ((k,v,cc):Nat × Nat × Nat).2.2),(4,af (((k,v,cc):Nat × Nat × Nat).1:Nat))],[.cells (av (tM a ((k,v,cc):Nat × Nat × Nat).1)) 1 ((k,v,cc):Nat × Nat × Nat).2.1],bJ.none,false,0⟩ _;dsimp only;have hlk:=oA a k;by_cases hlt:k < 5
 ·have dl:decide ((k:Int) < 5)=true:=decide_eq_true (by omega);have hs:tM a (k+1)=if ((a / 2 ^ k % 2:Nat):Int)=1 then tM a k++[(k:Int)] else tM a k:=rfl;have hgl:(av (tM a k)).length=(tM a k).length * 1:=by rw [List.length_map];omega
  have hq:a / 2 ^ k < 4611686018427387904:=Nat.lt_of_le_of_lt (Nat.div_le_self _ _) (by omega);by_cases hb:((a / 2 ^ k % 2:Nat):Int)=1
  ·rw [if_pos hb] at hs;have hd:decide (((a / 2 ^ k % 2:Nat):Int)=1)=true:=decide_eq_true hb;have hsl:(tM a (k+1)).length=(tM a k).length+1:=by rw [hs,List.length_append];rfl
   refine aa (mu:=fun t=>Nat.beq t 15) ?_;repeat' first|refine u1 ?_|((with_reducible show aQ _ _ _ _ _ _ _ _ _);refine RM.Cu (m:=a) (j:=k) rfl rfl (by omega) ?_)|((with_reducible show aQ _ _ _ _ _ _ _ _ _);refine RM.FY (m:=a / 2 ^ k) rfl rfl hq ?_)|((with_reducible show RM.wpOp _ _ (.call _) _ _ _);refine RM.sD (cs:=av (tM a k)) (n:=(tM a k).length) (els:=[[af (k:Int)]]) rfl rfl rfl rfl rfl (fun el hel=>by rw [List.mem_singleton.1 hel];rfl) rfl rfl hgl hcap (by simp only [List.length_singleton];omega) (fun v' c' hc'=>?_))|refine u2 ?_|fail
   exact ⟨(k+1,v',c'),⟨hlt,by dsimp only;rw [hsl];exact hc'⟩,(by dsimp only;omega),ak.to (hp:=[.cells (av (tM a ((k+1,v',c'):Nat × Nat × Nat).1)) 1 ((k+1,v',c'):Nat × Nat × Nat).2.1]) 1 (by show _=[AB.cells (av (tM a (k+1))) 1 v'];rw [hs];unfold av;rw [List.map_append];rfl) ⟨rfl,by dsimp only;rw [hsl];rfl,aH (by simp),trivial⟩ (qq5 _) rfl (ax _ _)⟩
  ·rw [if_neg hb] at hs;have hd:decide (((a / 2 ^ k % 2:Nat):Int)=1)=false:=decide_eq_false hb;refine aa (mu:=fun t=>Nat.beq t 15) ?_;repeat' first|refine u1 ?_|((with_reducible show aQ _ _ _ _ _ _ _ _ _);refine RM.Cu (m:=a) (j:=k) rfl rfl (by omega) ?_)|((with_reducible show aQ _ _ _ _ _ _ _ _ _);refine RM.FY (m:=a / 2 ^ k) rfl rfl hq ?_)|refine u2 ?_|fail
   exact ⟨(k+1,v,cc),⟨hlt,by dsimp only;rw [hs];exact hcap⟩,(by dsimp only;omega),ak.to (hp:=[.cells (av (tM a ((k+1,v,cc):Nat × Nat × Nat).1)) 1 ((k+1,v,cc):Nat × Nat × Nat).2.1]) 1 (by show _=[AB.cells (av (tM a (k+1))) 1 v];rw [hs];rfl) ⟨rfl,by dsimp only;rw [hs];rfl,aH (by simp),trivial⟩ (qq5 _) rfl (ax _ _)⟩
 ·have dl:decide ((k:Int) < 5)=false:=decide_eq_false (by omega);have hk5:k=5:=by omega
  subst hk5;refine aa (mu:=fun t=>Nat.beq t 15) ?_;repeat' first|refine u1 ?_|refine u2 ?_|fail
  exact ⟨[_],⟨wm rfl rfl,trivial⟩,rfl⟩
