/-
  Contracts of the program's functions and of the document's. Lemmas alone; their conditions stand in them.
-/
import Derived.Test.YtichbhmnhkegiaaGreatK11
import Derived.Test.YtichbhmnhkegiaaGreatK16
import Derived.Test.YtichbhmnhkegiaaGreatK18
import Derived.Test.YtichbhmnhkegiaaGreatK19
open Go Go.RM Go.AirLaw
namespace Go.Proofs.YtichbhmnhkegiaaGreat
set_option maxRecDepth 100000
set_option maxHeartbeats 4000000
theorem IL (one:Bool) (n N:Nat) (hN:N=n) (hn:n≤8) (k:Nat) (hk:k≤n):Pu one 104 [ai 0,ai (N:Nat),ai (k:Nat)] (.sl ((bF k 0 n).map w6) false):=by
 subst hN
 exact Kh one N hn k 0 (Nat.zero_le _) hk
theorem LA {hp:List AB}:∀ l,Fz hp (nM l) (.sl (l.map eI) false)
 | []=>Fz.nil
 | [_]=>Fz.full
 | _ :: _ :: _=>Fz.deep rfl
theorem LB {hp:List AB} {K:AV→List AB→Prop} (h:K (ai ((0:Nat):Int)) hp):oC TT 45 (.fl (.slice none 0 0)) hp K:=h
theorem MI {r:List (List AV)} {f:Bool} (x:List Int):bP [.sl r f,nM x]=true:=by
 show (true && ((nM x).deep && true))=true
 rw [CT];rfl
theorem CZ (one:Bool) (rs:List av) (f:Bool) (hr:rs.length≤1000):Pu one 59 [.sl (rs.map aj) f,.fl (.slice none 0 0)] (.sl (rs.map aj) false):=by
 have er:((rs.map aj).length:Int)=rs.length:=by simp
 obtain ⟨k0,hk0⟩:∃ k:Int,k=0:=⟨0,rfl⟩
 refine af.body (fn:=Tryz.f59) rfl rfl rfl rfl ?_
 refine aa (mu:=fun _=>false) ?_
 repeat' (first |refine u1 ?_ |refine u2 ?_ |fail)
 refine ax.aK (ah.trans (ah.jw 4) (ah.GI (l:=[(0,.sl (rs.map aj) f),(1,.fl (.slice none 0 0)),(5,.bg 0 0 0 (rs.take 0).length 0),(6,ai k0),(7,ai (0:Nat))]) (hp:=[.cells (eV (rs.take 0)) 4 0]) 1 rfl ⟨bG.refl _,bG.refl _,bG.jv,bG.of (by rw [hk0];rfl),bG.refl _,trivial⟩ (Nat.zero_le _) rfl (nO _ _))) ?_
 refine ax.loop (fun x:Nat × Nat × Nat=>x.1≤rs.length∧(x.2.2=(rs.take x.1).length∨x.2.2=(rs.take x.1).length+1)) (fun x=>⟨aF [(0,.sl (rs.map aj) f),(1,.fl (.slice none 0 0)),(5,.bg 0 x.2.1 0 (rs.take x.1).length x.2.2),(6,ai k0),(7,ai (x.1:Nat))],[.cells (eV (rs.take x.1)) 4 x.2.1],aV.none,false,0⟩) (fun x=>rs.length - x.1) ?_ (0,0,0) ⟨Nat.zero_le _,.inl rfl⟩
 rintro ⟨i,v,c⟩ ⟨hi,hcap⟩
 dsimp only at hi hcap
 show ax _ _ _ _ ⟨aF [(0,.sl (rs.map aj) f),(1,.fl (.slice none 0 0)),(5,.bg 0 v 0 (rs.take i).length c),(6,ai k0),(7,ai (i:Nat))],[.cells (eV (rs.take i)) 4 v],aV.none,false,0⟩ _
 refine aa (mu:=fun t=>Nat.beq t 34) ?_
 by_cases hlt:i < rs.length
 ·have d1:decide ((i:Int) < ((rs.map aj).length:Int))=true:=decide_eq_true (by omega)
  have hat:(rs.map aj)[((i:Nat):Int).toNat]?=some (aj rs[i]):=bO hlt
  have d2:decide (k0 < ((0:Nat):Int))=false:=decide_eq_false (by omega)
  have hte:=eN (List.getElem?_eq_getElem hlt)
  have hWl:(rs.take i).length≤1000:=by rw [List.length_take];omega
  generalize rs[i]=r at *
  repeat' (first |((with_reducible show oC _ _ _ _ _);refine LB ?_) |((with_reducible show RM.wpOp _ _ (.call _) _ _ _);refine RM.qJ (cs:=eV (rs.take i)) (n:=(rs.take i).length) (els:=[aj r]) rfl rfl rfl rfl rfl (fun el hel=>by rw [List.mem_singleton.1 hel];rfl) rfl rfl (iU (rs.take i)) hcap (by simp only [List.length_singleton];omega) (fun v' c' hc'=>?_)) |refine u1 ?_ |refine u2 ?_ |fail)
  refine ⟨(i+1,v',c'),⟨hlt,by dsimp only;rw [hte,List.length_append];exact hc'⟩,(by dsimp only;omega),?_⟩
  show ah _ ⟨aF [(0,.sl (rs.map aj) f),(1,.fl (.slice none 0 0)),(5,.bg 0 v' 0 (rs.take (i+1)).length c'),(6,ai k0),(7,ai ((i+1):Nat))],[.cells (eV (rs.take (i+1))) 4 v'],aV.none,false,0⟩
  rw [hte]
  exact ah.to 1 (by rw [kU];rfl) ⟨rfl,rfl,(by rw [List.length_append];rfl),rfl,aR (by simp),trivial⟩ (Nat.zero_le _) rfl (nO _ _)
 ·have d1:decide ((i:Int) < ((rs.map aj).length:Int))=false:=decide_eq_false (by omega)
  have hil:i=rs.length:=by omega
  subst hil
  rw [List.take_length]
  repeat' (first |refine u1 ?_ |refine u2 ?_ |fail)
  exact ⟨[_],⟨sV rfl rfl,trivial⟩,rfl⟩
theorem sW:∀ (rs:List av) (a:Nat),aT a rs []=rs
 | [],_=>by rw [jo]
 | r :: rs,a=>by rw [aT,sW rs]
theorem Gz (one:Bool) (rs:List av) (f:Bool) (hr:rs.length≤1000):∀ out:List Int,out.length≤1000→Pu one 59 [.sl (rs.map aj) f,nM out] (.sl ((aT 0 rs out).map aj) false)
 | [],_=>by rw [sW];exact CZ one rs f hr
 | [_],ho=>zh one rs f _ true hr ho
 | _ :: _ :: _,ho=>zh one rs f _ false hr ho
def sX (s:au) (n:aA) (rs:List av) (aB:Bool):Bool:=(oa s n aB).any fun x=>rs.all (sQ aB n x)
def mW (s:au) (n:aA) (rs:List av) (l:List Int):Bool:=sX s n (aT 0 rs l) false && sX s n (aT 0 rs l) true
def kA (s:au) (n:aA) (k:Nat):List (Int × Int):=oa s n (decide (k=1))
def kM (n:aA) (rs:List av) (k:Nat) (t:Int × Int) (i:Nat):Bool:=if k=0 then bL false n rs t i else if k=1 then bL true n rs t i else false
theorem Kj (n:aA) (rs:List av):HF (kM n rs):=by
 intro k k' t t' i h h'
 unfold kM at h h'
 split at h
 ·split at h'
  ·omega
  ·split at h'
   ·exact (tX i h h').elim
   ·cases h'
 ·split at h
  ·split at h'
   ·exact (tX i h' h).elim
   ·split at h'
    ·omega
    ·cases h'
  ·cases h
theorem C1 {s:au} {n:aA} {rs:List av} {q:Nat→Bool} (aB:Bool) :
  sX s n (aT 0 rs (aO q 0 rs.length)) aB=true ↔ ∃ t ∈ oa s n aB,∀ i,i < rs.length→bL aB n rs t i=true→q i=true:=by
 unfold sX
 rw [List.any_eq_true]
 refine exists_congr fun t=>and_congr_right fun _=>?_
 rw [List.all_eq_true]
 constructor
 ·intro h i hi hm
  cases hq:q i with
  | true=>rfl
  | false =>
   unfold bL at hm
   rw [List.getElem?_eq_getElem hi] at hm
   have:=h rs[i] ((oW q rs[i] rs 0).2 ⟨i,List.getElem?_eq_getElem hi,by rw [Nat.zero_add];exact hq⟩)
   simp [this] at hm
 ·intro h r hr
  obtain ⟨i,hi,hq⟩:=(oW q r rs 0).1 hr
  rw [Nat.zero_add] at hq
  have hlt:i < rs.length:=by
   rcases Nat.lt_or_ge i rs.length with h|h
   ·exact h
   ·rw [List.getElem?_eq_none h] at hi;cases hi
  cases ho:sQ aB n t r with
  | true=>rfl
  | false =>
   rw [h i hlt (by unfold bL;rw [hi];simp [ho])] at hq
   cases hq
theorem C2 {s:au} {n:aA} {rs:List av} {q:Nat→Bool}:mW s n rs (aO q 0 rs.length)=true ↔ JB 2 rs.length (kA s n) (kM n rs) q:=by
 unfold mW JB
 rw [Bool.and_eq_true,C1,C1]
 constructor
 ·rintro ⟨h0,h1⟩ k hk
  match k,hk with
  | 0,_=>exact h0
  | 1,_=>exact h1
 ·intro h
  exact ⟨h 0 (by decide),h 1 (by decide)⟩
theorem w8 {s:au} {n:aA} {rs:List av} {tl th:Int × Int} (h:uF s n rs tl th):K1 2 rs.length (kA s n) (kM n rs) (fun k=>if k=1 then th else tl):=by
 intro k hk
 match k,hk with
 | 0,_=>exact ⟨h.l,h.JX⟩
 | 1,_=>exact ⟨h.h,h.hmin⟩
theorem zj (n:aA) (rs:List av) (tl th:Int × Int):gJ n rs tl th=aO (jk (kM n rs) (fun k=>if k=1 then th else tl) 2) 0 rs.length:=by
 have:(fun i=>bL false n rs tl i || bL true n rs th i)=jk (kM n rs) (fun k=>if k=1 then th else tl) 2:=by
  funext i
  unfold jk
  show _=(bL false n rs tl i || (bL true n rs th i || false))
  rw [Bool.or_false]
 unfold gJ
 rw [this]
theorem Ef {s:au} {n:aA} {rs:List av} {tl th:Int × Int} (h:uF s n rs tl th):mW s n rs (gJ n rs tl th)=true:=by
 rw [zj,C2]
 exact JD (w8 h)
theorem C3 {s:au} {n:aA} {rs:List av} {tl th:Int × Int} (h:uF s n rs tl th) (p:Nat→Bool) (hp:mW s n rs (aO p 0 rs.length)=true):¬ gv (aO p 0 rs.length) (gJ n rs tl th):=by
 rw [zj]
 intro hb
 rcases HH (Kj n rs) (w8 h) (C2.1 hp) with e|e
 ·rw [e] at hb;exact pM hb
 ·exact pM (tQ e hb)
theorem Eg (one:Bool) (s:au) (h:s.Ok) (n:aA) (rs:List av) (f:Bool) (hr:rs.length≤maxLen) (h0:(aD s n rs).2 ≠ 0):Pu one 40 [.ag (ay s),.ag (aC n),.sl (rs.map aj) f] (.tp [.sl [] false,ai (aD s n rs).2]):=by
 have hen:=iu one s h n rs f hr
 generalize aD s n rs=z at *
 have d0:(!decide (z.2=0))=true:=by rw [decide_eq_false h0];rfl
 refine af.body (fn:=Tryz.f40) rfl rfl rfl rfl ?_
 refine aa (mu:=fun _=>false) ?_
 repeat' (first |refine u1 ?_ |refine u2 ?_ |fail)
 exact ⟨[_,_],⟨Fz.nil,Fz.deep rfl,trivial⟩,rfl⟩
theorem IM (one:Bool) (s:au) (h:s.Ok) (n:aA) (rs:List av) (f:Bool) (h0:(aD s n rs).2=0) (tl th:Int × Int) (hb:uF s n rs tl th):Pu one 40 [.ag (ay s),.ag (aC n),.sl (rs.map aj) f] (.tp [.sl ((gJ n rs tl th).map eI) false,ai 0]):=by
 have ho:=cc h0
 have h8:=ho.JL
 have hen:=iu one s h n rs f (by unfold maxLen;omega)
 rw [h0] at hen
 have hF:=Ef hb
 have hle:=C3 hb
 have hm:∃ p:Nat→Bool,gJ n rs tl th=aO p 0 rs.length:=⟨_,rfl⟩
 have hso:∀ (l:List Int) (aB:Bool),Pu one 105 [.ag (ay s),.ag (aC n),.sl ((aT 0 rs l).map aj) false,BB aB] (BB (sX s n (aT 0 rs l) aB)):=fun l aB =>
  Ki one ho ⟨fun r hr=>ho.near.x r (jq hr),fun r hr=>ho.near.y r (jq hr)⟩ (Nat.le_trans (lN rs 0 l) (by unfold maxLen;omega)) false aB
 have hfe:∀ l,mW s n rs l=(sX s n (aT 0 rs l) false && sX s n (aT 0 rs l) true):=fun l=>rfl
 generalize gJ n rs tl th=F at *
 have er:((rs.map aj).length:Int)=rs.length:=by simp
 have d0:(!decide ((0:Int)=0))=false:=by decide
 refine af.body (fn:=Tryz.f40) rfl rfl rfl rfl ?_
 refine aa (mu:=fun _=>false) ?_
 repeat' (first |refine u1 ?_ |refine u2 ?_ |fail)
 refine ax.aK (ah.to (l:=[(2,.sl (rs.map aj) f),(3,.pt (ay s) 0),(4,.pt (aC n) 0),(10,ai (0:Nat))]) (hp:=[]) 0 rfl ⟨rfl,rfl,rfl,rfl,trivial⟩ (Nat.zero_le _) rfl rfl) ?_
 refine ax.loop (fun k:Nat=>k≤rs.length+1∧∀ j,j < k→∀ l ∈ bF j 0 rs.length,mW s n rs l=false) (fun k=>⟨aF [(2,.sl (rs.map aj) f),(3,.pt (ay s) 0),(4,.pt (aC n) 0),(10,ai (k:Nat))],[],aV.none,false,0⟩) (fun k=>rs.length+1 - k) ?_ 0 ⟨Nat.zero_le _,fun j hj=>absurd hj (Nat.not_lt_zero _)⟩
 rintro k ⟨hk,hprev⟩
 refine aa (mu:=fun _=>false) ?_
 by_cases hlt:k≤rs.length
 ·have d1:decide ((k:Int)≤((rs.map aj).length:Int))=true:=decide_eq_true (by omega)
  have hl:=IL one rs.length (rs.map aj).length (by simp) h8 k hlt
  repeat' (first |refine u1 ?_ |refine u2 ?_ |fail)
  have hfirst:∀ i x,(∀ j,j < i→∀ l,(bF k 0 rs.length)[j]?=some l→mW s n rs l=false)→(bF k 0 rs.length)[i]?=some x→mW s n rs x=true→x=F:=fun i x h2 hx hP=>CS hF hm hle hprev h2 hx hP
  have hnext:(∀ l ∈ bF k 0 rs.length,mW s n rs l=false)→∀ j,j < k+1→∀ l ∈ bF j 0 rs.length,mW s n rs l=false:=fun hh j hj=>by
   by_cases e:j=k
   ·subst e;exact hh
   ·exact hprev j (by omega)
  have hxl:∀ l ∈ bF k 0 rs.length,l.length≤1000:=fun l hl=>by
   obtain ⟨p,_,g⟩:=(mV _ _ _ _).1 hl
   omega
  have hRn:(bF k 0 rs.length).length≤256:=Nat.le_trans (ze rs.length k 0) (Nat.pow_le_pow_right (n:=2) (by decide) h8)
  generalize bF k 0 rs.length=R at *
  have eR:((R.map w6).length:Int)=R.length:=by simp
  refine ax.aK (ah.to (l:=[(2,.sl (rs.map aj) f),(3,.pt (ay s) 0),(4,.pt (aC n) 0),(10,ai (k:Nat)),(11,.sl (R.map w6) false),(12,ai (0:Nat))]) (hp:=[]) 0 rfl ⟨rfl,rfl,rfl,rfl,rfl,rfl,trivial⟩ (Nat.zero_le _) rfl rfl) ?_
  refine ax.loop (fun i:Nat=>i≤R.length∧∀ j,j < i→∀ l,R[j]?=some l→mW s n rs l=false) (fun i=>⟨aF [(2,.sl (rs.map aj) f),(3,.pt (ay s) 0),(4,.pt (aC n) 0),(10,ai (k:Nat)),(11,.sl (R.map w6) false),(12,ai (i:Nat))],[],aV.none,false,0⟩) (fun i=>R.length - i) ?_ 0 ⟨Nat.zero_le _,fun j hj=>absurd hj (Nat.not_lt_zero _)⟩
  rintro i ⟨hi,hpi⟩
  refine aa (mu:=fun _=>false) ?_
  by_cases hli:i < R.length
  ·have d2:decide ((i:Int) < ((R.map w6).length:Int))=true:=decide_eq_true (by omega)
   have hat:(R.map w6)[((i:Nat):Int).toNat]?=some (w6 R[i]):=bO hli
   have hxe:R[i]?=some R[i]:=List.getElem?_eq_getElem hli
   have hw:=Gz one rs f (by omega) R[i] (hxl _ (List.getElem_mem hli))
   have hs1:=hso R[i] false
   have hs2:=hso R[i] true
   have hf:=hfe R[i]
   generalize R[i]=x at *
   have hstep:mW s n rs x=false→∀ j,j < i+1→∀ l,R[j]?=some l→mW s n rs l=false:=fun hh j hj l hl=>by
    by_cases e:j=i
    ·subst e;rw [hxe] at hl;rw [←Option.some.inj hl];exact hh
    ·exact hpi j (by omega) l hl
   cases b1:sX s n (aT 0 rs x) false with
   | false =>
    rw [b1] at hs1 hf
    repeat' (first |((with_reducible show force _ _);refine vn ?_) |((with_reducible show aP _ _ _ _ _ _ _ _);refine af.call hw rfl (MI _) ?_) |refine u1 ?_ |refine u2 ?_ |fail)
    exact ⟨i+1,⟨hli,hstep hf⟩,(by dsimp only;omega),ah.to 0 rfl ⟨rfl,rfl,rfl,rfl,rfl,aR (by simp),trivial⟩ (Nat.zero_le _) rfl rfl⟩
   | true =>
    rw [b1] at hs1 hf
    cases b2:sX s n (aT 0 rs x) true with
    | false =>
     rw [b2] at hs2 hf
     repeat' (first |((with_reducible show force _ _);refine vn ?_) |((with_reducible show aP _ _ _ _ _ _ _ _);refine af.call hw rfl (MI _) ?_) |refine u1 ?_ |refine u2 ?_ |fail)
     exact ⟨i+1,⟨hli,hstep hf⟩,(by dsimp only;omega),ah.to 0 rfl ⟨rfl,rfl,rfl,rfl,rfl,aR (by simp),trivial⟩ (Nat.zero_le _) rfl rfl⟩
    | true =>
     rw [b2] at hs2 hf
     have hxF:=hfirst i x hpi hxe hf
     repeat' (first |((with_reducible show force _ _);refine vn ?_) |((with_reducible show aP _ _ _ _ _ _ _ _);refine af.call hw rfl (MI _) ?_) |refine u1 ?_ |refine u2 ?_ |fail)
     rw [←hxF]
     exact ⟨[_,_],⟨LA x,Fz.deep rfl,trivial⟩,rfl⟩
  ·have d2:decide ((i:Int) < ((R.map w6).length:Int))=false:=decide_eq_false (by omega)
   repeat' (first |refine u1 ?_ |refine u2 ?_ |fail)
   refine ⟨k+1,⟨by omega,hnext fun l hl=>?_⟩,(by dsimp only;omega),ah.to 0 rfl ⟨rfl,rfl,rfl,aR (by simp),trivial⟩ (Nat.zero_le _) rfl rfl⟩
   obtain ⟨j,hj,rfl⟩:=List.getElem_of_mem hl
   exact hpi j (by omega) _ (List.getElem?_eq_getElem hj)
 ·exact (Ed hF hm fun j hj=>hprev j (by omega)).elim
end Go.Proofs.YtichbhmnhkegiaaGreat
open Go Go.RM Go.AirLaw
namespace Go.Proofs.YtichbhmnhkegiaaGreat
set_option maxRecDepth 100000
set_option maxHeartbeats 4000000
theorem IP {s:au} {n:aA} {rs:List av} (h:jW s n rs) (aB:Bool):oa s n aB ≠ []:=by
 intro he
 have h0:(oa s n aB).length=0:=by rw [he];rfl
 cases aB with
 | true =>
  have h1:=h.gU.aN
  have h2:=h.bX
  have:(fc s n).length=0:=h0
  unfold fc at this
  rw [gi,bp,bp] at this
  have a1:0 < bh s.aN:=by unfold bh;omega
  have a2:0 < bh ⟨n.dc,n.dc+n.bX - 1⟩:=by unfold bh;dsimp only;omega
  have:=Nat.mul_pos a1 a2
  omega
 | false =>
  have h1:=h.gU.cand _ h.mem
  have h2:=h.gU.clear
  have:(dH s n).length=0:=h0
  unfold dH at this
  rw [gi,bp,bp] at this
  have a1:0 < bh (gr s n.bK).cand:=by unfold bh;omega
  have a2:0 < bh s.clear:=by unfold bh;omega
  have:=Nat.mul_pos a1 a2
  omega
theorem zk {s:au} {n:aA} {rs:List av} (h:jW s n rs):∃ tl th,uF s n rs tl th:=by
 obtain ⟨tl,h1,h2⟩:=tR (fun t=>aO (bL false n rs t) 0 rs.length) (dH s n) (IP h false)
 obtain ⟨th,h3,h4⟩:=tR (fun t=>aO (bL true n rs t) 0 rs.length) (fc s n) (IP h true)
 exact ⟨tl,th,⟨h1,h3,h2,h4⟩⟩
theorem Eh (n:aA) (rs:List av) (tl th:Int × Int):(gJ n rs tl th).length≤rs.length:=e8 _ _ _
theorem IQ (s:au) (h:s.Ok) (n:aA) (rs:List av) (f:Bool) (hr:rs.length≤maxLen):Pu false 6 [.ag (ay s),.ag (aC n),.sl (rs.map aj) f] (BB true):=by
 have aw:=CR
 by_cases h0:(aD s n rs).2=0
 ·have ho:=cc h0
  have h8:=ho.JL
  obtain ⟨tl,th,hb⟩:=zk ho
  have c1:=AZ s h n rs f h0 tl th hb
  have c2:=IM false s h n rs f h0 tl th hb
  have hl:=Eh n rs tl th
  have c3:=w4 false (gJ n rs tl th) (gJ n rs tl th) false false (by unfold maxLen;omega) (by unfold maxLen;omega)
  rw [decide_eq_true rfl] at c3
  have d0:decide ((0:Int)=0)=true:=rfl
  refine af.body (fn:=Tryz.f6) rfl rfl rfl rfl ?_
  refine aa (mu:=fun _=>false) ?_
  repeat' (first |refine u1 ?_ |refine u2 ?_ |fail)
  exact ⟨[_],⟨Fz.deep rfl,trivial⟩,rfl⟩
 ·have c1:=Gt false s h n rs f hr h0
  have c2:=Eg false s h n rs f hr h0
  have c3:=w4 false [] [] false false (by decide) (by decide)
  rw [decide_eq_true rfl] at c3
  generalize aD s n rs=z at *
  have d0:decide (z.2=z.2)=true:=decide_eq_true rfl
  refine af.body (fn:=Tryz.f6) rfl rfl rfl rfl ?_
  refine aa (mu:=fun _=>false) ?_
  repeat' (first |refine u1 ?_ |refine u2 ?_ |fail)
  exact ⟨[_],⟨Fz.deep rfl,trivial⟩,rfl⟩
end Go.Proofs.YtichbhmnhkegiaaGreat
open Go Go.RM Go.AirLaw
namespace Go.Proofs.YtichbhmnhkegiaaGreat
set_option maxRecDepth 100000
set_option maxHeartbeats 4000000
abbrev ob (n:Int):AV:=.fl (.int .u16 n)
abbrev U8 (n:Int):AV:=.fl (.int .u8 n)
abbrev LM (n:Int):AV:=.fl (.int .i16 n)
section
variable {own : Bool} {fr : Nat → AV} {hp : List AB} {K : AV → List AB → Prop} {x : Operand} {n : Int}
theorem qc (hx:aM fr x=ob n) (h:0≤n∧n≤65535) (k:K (ai n) hp):RM.wpOp TT own (.convert 67 3 x) fr hp K:=by
 show tG TT 67 3 (aM fr x) hp K
 rw [hx]
 have:cg (az TT.P (convert 67 3 (.int .u16 n)))=some (.int .i64 (IntKind.i64.wrap n),.none):=rfl
 rw [IntWalk.i64_in n (by omega)] at this
 exact ⟨_,rfl,_,this,rfl,k⟩
theorem Nn (hx:aM fr x=U8 n) (h:0≤n∧n≤255) (k:K (ai n) hp):RM.wpOp TT own (.convert 5 3 x) fr hp K:=by
 show tG TT 5 3 (aM fr x) hp K
 rw [hx]
 have:cg (az TT.P (convert 5 3 (.int .u8 n)))=some (.int .i64 (IntKind.i64.wrap n),.none):=rfl
 rw [IntWalk.i64_in n (by omega)] at this
 exact ⟨_,rfl,_,this,rfl,k⟩
end
theorem C4 (v:Pt) (c r:Int) (hx:-60000≤v.x∧v.x≤60000) (hy:-60000≤v.y∧v.y≤60000) (hc:1≤c∧c≤5000) (hr:1≤r∧r≤300):oJ v c r=(bz v.x v.y c r,0):=by
 unfold oJ
 rw [if_neg]
 simp [vg,aX]
 omega
theorem zl (v:Pt) (c r:Int) (hx:-60000≤v.x∧v.x≤60000) (hy:-60000≤v.y∧v.y≤60000) (hc:1≤c∧c≤200) (hr:0≤r∧r≤31):lZ v c r=(aY v.x v.y c r,0):=by
 unfold lZ
 rw [if_neg]
 simp [sH,aX]
 omega
end Go.Proofs.YtichbhmnhkegiaaGreat
open Go Go.RM Go.AirLaw
namespace Go.Proofs.YtichbhmnhkegiaaGreat
set_option maxRecDepth 100000
set_option maxHeartbeats 4000000
theorem Me {P:Program} {t:TypeId} {x y:Operand} {m n:Int} (hm:0≤m∧m≤65535) (h2:1≤n):fe P .rem t x y (.int .u16 m) (.int .u16 n)=some (.int .u16 (m % n),.none):=by
 have hn:n ≠ 0:=by omega
 have h:fe P .rem t x y (.int .u16 m) (.int .u16 n)=some (.int .u16 (m.tmod n),.none):=by
  show cK P .rem t x y (.int .u16 m) (.int .u16 n)=_
  unfold cK
  simp only [flat,bl,Bool.and_self,cond_true]
  have:(do eqGuard BinOp.rem t x y (Value.int IntKind.u16 m) (Value.int IntKind.u16 n);binOp BinOp.rem t (Value.int IntKind.u16 m) (Value.int IntKind.u16 n):Sem Value)=pure (.int .u16 (m.tmod n)):=by
   show Op.intDiv .rem .u16 m n=_
   unfold Op.intDiv
   rw [if_neg hn]
  rw [this]
  rfl
 rw [h,Int.tmod_eq_emod_of_nonneg hm.1]
theorem LC {P:Program} {t:TypeId} {x y:Operand} {m n:Int}:fe P .eql t x y (.int .u16 m) (.int .u16 n)=some (.bool (decide (m=n)),.none):=by
 show cK P .eql t x y (.int .u16 m) (.int .u16 n)=_
 unfold cK
 simp only [flat,bl,Bool.and_self,cond_true]
 rfl
section
variable {own : Bool} {fr : Nat → AV} {hp : List AB} {K : AV → List AB → Prop} {x y : Operand} {m n : Int} {a b : AV} {t : TypeId}
theorem IU (ha:a=ob m) (hb:b=ob n) (h:(0≤m∧m≤65535)∧1≤n) (k:K (ob (m % n)) hp):cI TT .rem t x y a b hp K:=by
 subst ha hb
 exact ⟨_,_,rfl,rfl,_,Me h.1 h.2,rfl,k⟩
theorem KI (ha:a=ob m) (hb:b=ob n) (k:K (BB (decide (m=n))) hp):cI TT .eql t x y a b hp K:=by
 subst ha hb
 exact ⟨_,_,rfl,rfl,.bool (decide (m=n)),LC,rfl,k⟩
end
theorem IV (one:Bool) (s:au) (h:s.Ok) (n:aA) (rs:List av) (f:Bool) (hr:rs.length≤maxLen):Pu one 46 [.ag (ay s),.ag (aC n),.sl (rs.map aj) f] (BB (decide ((aD s n rs).2=0))):=by
 have hen:=iu one s h n rs f hr
 generalize aD s n rs=z at *
 refine af.body (fn:=Tryz.f46) rfl rfl rfl rfl ?_
 refine aa (mu:=fun _=>false) ?_
 repeat' (first |refine u1 ?_ |refine u2 ?_ |fail)
 exact ⟨[_],⟨Fz.deep rfl,trivial⟩,rfl⟩
def oX (s:Span) (n:Int):Int:=s.lo+n % (s.hi - s.lo+1)
theorem A6 (one:Bool) (s:Span) (n:Int) (hs:-1000000≤s.lo∧s.lo≤s.hi∧s.hi≤1000000) (hn:0≤n∧n≤65535):Pu one 58 [.ag (aG s),ai n] (ai (oX s n)):=by
 have h1:=Int.emod_nonneg n (b:=s.hi - s.lo+1) (by omega)
 have h2:=Int.emod_lt_of_pos n (b:=s.hi - s.lo+1) (by omega)
 unfold oX
 refine af.body (fn:=Tryz.f58) rfl rfl rfl rfl ?_
 refine aa (mu:=fun _=>false) ?_
 repeat' (first |refine u1 ?_ |refine u2 ?_ |fail)
 exact ⟨[_],⟨Fz.deep rfl,trivial⟩,rfl⟩
def mX (p:Pt) (x y:Int):Pt:=⟨max (-30000) (min 30000 (p.x+x - 32768)),max (-30000) (min 30000 (p.y+y - 32768))⟩
theorem IW (one:Bool) (p:Pt) (x y:Int) (hpx:-1000000≤p.x∧p.x≤1000000) (hpy:-1000000≤p.y∧p.y≤1000000) (hx:0≤x∧x≤65535) (hy:0≤y∧y≤65535):Pu one 53 [.ag (oG p),ob x,ob y] (.ag (oG (mX p x y))):=by
 unfold mX
 refine af.body (fn:=Tryz.f53) rfl rfl rfl rfl ?_
 refine aa (mu:=fun _=>false) ?_
 repeat' (first |((with_reducible show RM.wpOp _ _ (.convert _ _ _) _ _ _);refine qc rfl hx ?_) |((with_reducible show RM.wpOp _ _ (.convert _ _ _) _ _ _);refine qc rfl hy ?_) |refine u1 ?_ |refine u2 ?_ |fail)
 exact ⟨[_],⟨Fz.deep rfl,trivial⟩,rfl⟩
theorem sY (one:Bool) (n:Int) (s:Span):Pu one 50 [ai n,.ag (aG s)] (BB (decide (s.lo≤n) && decide (n≤s.hi))):=by
 by_cases h1:s.lo≤n
 ·have d1:decide (s.lo≤n)=true:=decide_eq_true h1
  rw [d1]
  refine af.body (fn:=Tryz.f50) rfl rfl rfl rfl ?_
  refine aa (mu:=fun _=>false) ?_
  repeat' (first |refine u1 ?_ |refine u2 ?_ |fail)
  exact ⟨[_],⟨Fz.deep rfl,trivial⟩,rfl⟩
 ·have d1:decide (s.lo≤n)=false:=decide_eq_false h1
  rw [d1]
  refine af.body (fn:=Tryz.f50) rfl rfl rfl rfl ?_
  refine aa (mu:=fun _=>false) ?_
  repeat' (first |refine u1 ?_ |refine u2 ?_ |fail)
  exact ⟨[_],⟨Fz.deep rfl,trivial⟩,rfl⟩
theorem Mf (one:Bool) (l:List Int) (f:Bool) (n:Int) (hl:l.length≤maxLen):Pu one 51 [.sl (l.map eI) f,ai n] (BB (l.any fun x=>decide (x=n))):=by
 unfold maxLen at hl
 have el:((l.map eI).length:Int)=l.length:=by simp
 generalize hB:(l.any fun x=>decide (x=n))=B
 refine af.body (fn:=Tryz.f51) rfl rfl rfl rfl ?_
 refine aa (mu:=fun _=>false) ?_
 repeat' (first |refine u1 ?_ |refine u2 ?_ |fail)
 refine ax.aK (ah.to (l:=[(0,.sl (l.map eI) f),(1,ai n),(5,ai ((0:Nat):Int))]) (hp:=[]) 0 rfl ⟨rfl,rfl,rfl,trivial⟩ (Nat.zero_le _) rfl rfl) ?_
 refine ax.loop (fun i:Nat=>i≤l.length∧∀ j (h:j < l.length),j < i→l[j] ≠ n) (fun i=>⟨aF [(0,.sl (l.map eI) f),(1,ai n),(5,ai (i:Nat))],[],aV.none,false,0⟩) (fun i=>l.length - i) ?_ 0 ⟨Nat.zero_le _,fun _ _ h=>absurd h (Nat.not_lt_zero _)⟩
 rintro i ⟨hi,hprev⟩
 refine aa (mu:=fun _=>false) ?_
 by_cases hlt:i < l.length
 ·have d1:decide ((i:Int) < ((l.map eI).length:Int))=true:=decide_eq_true (by omega)
  have hat:(l.map eI)[((i:Nat):Int).toNat]?=some (eI l[i]):=bO hlt
  by_cases hq:l[i]=n
  ·have d2:decide (l[i]=n)=true:=decide_eq_true hq
   have:B=true:=by rw [←hB,List.any_eq_true];exact ⟨_,List.getElem_mem hlt,d2⟩
   rw [this]
   repeat' (first |refine u1 ?_ |refine u2 ?_ |fail)
   exact ⟨[_],⟨Fz.deep rfl,trivial⟩,rfl⟩
  ·have d2:decide (l[i]=n)=false:=decide_eq_false hq
   repeat' (first |refine u1 ?_ |refine u2 ?_ |fail)
   refine ⟨i+1,⟨hlt,fun j hj hji=>?_⟩,(by dsimp only;omega),ah.to 0 rfl ⟨rfl,rfl,aR (by simp),trivial⟩ (Nat.zero_le _) rfl rfl⟩
   by_cases e:j=i
   ·subst e;exact hq
   ·exact hprev j hj (by omega)
 ·have d1:decide ((i:Int) < ((l.map eI).length:Int))=false:=decide_eq_false (by omega)
  have:B=false:=by
   rw [←hB,List.any_eq_false]
   intro x hx
   obtain ⟨j,hj,rfl⟩:=List.getElem_of_mem hx
   simpa using hprev j hj (by omega)
  rw [this]
  repeat' (first |refine u1 ?_ |refine u2 ?_ |fail)
  exact ⟨[_],⟨Fz.deep rfl,trivial⟩,rfl⟩
abbrev eU (n:Int):List AV:=[ob n]
def kV (l:List Int) (n:Nat):Int:=if l=[] then 0 else l.getD (n % l.length) 0
structure iA where
 a:Int
 b:Int
 c:Int
 d:Int
 taken:List Int
structure iA.Ok (x:iA):Prop where
 a:0≤x.a∧x.a≤65535
 b:0≤x.b∧x.b≤65535
 c:0≤x.c∧x.c≤65535
 d:0≤x.d∧x.d≤65535
 t:∀ y ∈ x.taken,0≤y∧y≤65535
 len:x.taken.length≤maxLen
abbrev nZ (x:iA) (f:Bool):List AV:=[ob x.a,ob x.b,ob x.c,ob x.d,.sl (x.taken.map eU) f]
theorem IX (one:Bool) (l:List Int) (f:Bool) (n:Nat) (hl:l.length≤maxLen) (h:∀ y ∈ l,0≤y∧y≤65535) (hn:n≤1000):Pu one 54 [.sl (l.map eU) f,ai (n:Nat)] (ai (kV l n)):=by
 unfold maxLen at hl
 have el:((l.map eU).length:Int)=l.length:=by simp
 unfold kV
 by_cases h0:l=[]
 ·subst h0
  rw [if_pos rfl]
  have d1:decide ((((([]:List Int).map eU).length:Nat):Int)=0)=true:=rfl
  refine af.body (fn:=Tryz.f54) rfl rfl rfl rfl ?_
  refine aa (mu:=fun _=>false) ?_
  repeat' (first |refine u1 ?_ |refine u2 ?_ |fail)
  exact ⟨[_],⟨Fz.deep rfl,trivial⟩,rfl⟩
 ·rw [if_neg h0]
  have hl0:0 < l.length:=List.length_pos_iff.2 h0
  have d1:decide (((l.map eU).length:Int)=0)=false:=decide_eq_false (by omega)
  have hlt:n % l.length < l.length:=Nat.mod_lt _ hl0
  have he:(n:Int) % ((l.map eU).length:Int)=((n % l.length:Nat):Int):=by rw [el];omega
  have hat:(l.map eU)[((n:Int) % ((l.map eU).length:Int)).toNat]?=some (eU (l.getD (n % l.length) 0)):=by
   rw [he,Int.toNat_natCast,List.getElem?_map,List.getElem?_eq_getElem hlt,List.getD_eq_getElem?_getD,List.getElem?_eq_getElem hlt];rfl
  have hb:=h (l.getD (n % l.length) 0) (by rw [List.getD_eq_getElem?_getD,List.getElem?_eq_getElem hlt];exact List.getElem_mem hlt)
  generalize l.getD (n % l.length) 0=y at *
  have h1:0≤(n:Int) % ((l.map eU).length:Int):=by rw [he];omega
  refine af.body (fn:=Tryz.f54) rfl rfl rfl rfl ?_
  refine aa (mu:=fun _=>false) ?_
  repeat' (first |((with_reducible show RM.wpOp _ _ (.convert _ _ _) _ _ _);refine qc rfl hb ?_) |refine u1 ?_ |refine u2 ?_ |fail)
  exact ⟨[_],⟨Fz.deep rfl,trivial⟩,rfl⟩
theorem KJ (one:Bool) (n:aA) (p:Pt) (x:Int × Int) (aB:Bool) (hx:-60000≤p.x - n.pos.x∧p.x - n.pos.x≤60000) (hy:-60000≤p.y - n.pos.y∧p.y - n.pos.y≤60000)
  (hb:if aB=true then (1≤x.1∧x.1≤200)∧0≤x.2∧x.2≤31 else (1≤x.1∧x.1≤5000)∧1≤x.2∧x.2≤300) :
  Pu one 55 [.ag (aC n),.ag (oG p),.ag (eP x),BB aB] (.tp [BB (jn n p x aB),BB true]):=by
 have hv:=Ff one p n.pos hx hy
 have d0:decide ((0:Int)=0)=true:=rfl
 unfold jn CI
 cases aB with
 | true =>
  rw [if_pos rfl] at hb
  have hm:=pO one ⟨p.x - n.pos.x,p.y - n.pos.y⟩ x.1 x.2
  rw [zl _ _ _ hx hy hb.1 hb.2] at hm
  simp only [if_true]
  dsimp only at hm
  generalize aY (p.x - n.pos.x) (p.y - n.pos.y) x.1 x.2=v at *
  refine af.body (fn:=Tryz.f55) rfl rfl rfl rfl ?_
  refine aa (mu:=fun _=>false) ?_
  repeat' (first |refine u1 ?_ |refine u2 ?_ |fail)
  exact ⟨[_,_],⟨Fz.deep rfl,Fz.deep rfl,trivial⟩,rfl⟩
 | false =>
  rw [if_neg (by simp)] at hb
  have hm:=qL one ⟨p.x - n.pos.x,p.y - n.pos.y⟩ x.1 x.2
  rw [C4 _ _ _ hx hy hb.1 hb.2] at hm
  simp only [Bool.false_eq_true,if_false]
  dsimp only at hm
  generalize bz (p.x - n.pos.x) (p.y - n.pos.y) x.1 x.2=v at *
  refine af.body (fn:=Tryz.f55) rfl rfl rfl rfl ?_
  refine aa (mu:=fun _=>false) ?_
  repeat' (first |refine u1 ?_ |refine u2 ?_ |fail)
  exact ⟨[_,_],⟨Fz.deep rfl,Fz.deep rfl,trivial⟩,rfl⟩
def l7 (s:au) (n:aA) (x:iA):Int × Int:=(oX (gr s n.bK).cand x.a,oX s.clear x.b)
def oY (s:au) (n:aA) (x:iA):Int × Int:=(oX s.aN x.c,(n.dc+x.d % n.bX) % 32)
theorem C5 (one:Bool) {s:au} {n:aA} {rs:List av} (ho:jW s n rs) (x:iA) (hx:x.Ok) (f:Bool):Pu one 48 [.ag (ay s),.ag (aC n),.ag (nZ x f)] (.ag (eP (l7 s n x))):=by
 have hat:=ho.at
 have hg:=ho.bK
 have g1:=ho.gU.cand _ ho.mem
 have g2:=ho.gU.clear
 have c1:=A6 true (gr s n.bK).cand x.a (by omega) hx.a
 have c2:=A6 true s.clear x.b (by omega) hx.b
 have ha:=hx.a
 have hb:=hx.b
 unfold l7
 generalize gr s n.bK=g at *
 refine af.body (fn:=Tryz.f48) rfl rfl rfl rfl ?_
 refine aa (mu:=fun _=>false) ?_
 repeat' (first |((with_reducible show RM.wpOp _ _ (.convert _ _ _) _ _ _);refine qc rfl ha ?_) |((with_reducible show RM.wpOp _ _ (.convert _ _ _) _ _ _);refine qc rfl hb ?_) |refine u1 ?_ |refine u2 ?_ |fail)
 exact ⟨[_],⟨Fz.deep rfl,trivial⟩,rfl⟩
theorem Fs (one:Bool) {s:au} {n:aA} {rs:List av} (ho:jW s n rs) (x:iA) (hx:x.Ok) (f:Bool):Pu one 49 [.ag (ay s),.ag (aC n),.ag (nZ x f)] (.ag (eP (oY s n x))):=by
 have g3:=ho.gU.aN
 have g4:=ho.dc
 have g5:=ho.bX
 have c1:=A6 true s.aN x.c (by omega) hx.c
 have hc:=hx.c
 have hd:=hx.d
 have h1:=Int.emod_nonneg x.d (b:=n.bX) (by omega)
 have h2:=Int.emod_lt_of_pos x.d (b:=n.bX) (by omega)
 unfold oY
 refine af.body (fn:=Tryz.f49) rfl rfl rfl rfl ?_
 refine aa (mu:=fun _=>false) ?_
 repeat' (first |((with_reducible show RM.wpOp _ _ (.convert _ _ _) _ _ _);refine qc rfl hc ?_) |((with_reducible show RM.wpOp _ _ (.convert _ _ _) _ _ _);refine qc rfl hd ?_) |refine u1 ?_ |refine u2 ?_ |fail)
 exact ⟨[_],⟨Fz.deep rfl,trivial⟩,rfl⟩
end Go.Proofs.YtichbhmnhkegiaaGreat
