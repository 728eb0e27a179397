/-
  Contracts of the program's functions and of the document's. Lemmas alone; their conditions stand in them.
-/
import Derived.Test.YtpeogffeoehboaaGreatDoorK5
open Go Go.RM
namespace Go.Proofs.YtpeogffeoehboaaGreatDoor
set_option maxRecDepth 100000
set_option maxHeartbeats 4000000
theorem vn {l:List Int} (h:l ≠ []):ints l ≠ []:=by
 cases l with
 | nil=>exact absurd rfl h
 | cons=>simp
theorem ki:∀ l:List Int,(ints l).flatten.all AV.one=true∧cC (ints l).flatten=true
 | []=>⟨rfl,rfl⟩
 | _ :: l=>ki l
theorem Nq (one:Bool) (l:List Int) (full:Bool) (h:l ≠ []) (hl:l.length≤8):Pu one 32 [.sl (ints l) full] (.sl (ints l) false):=by
 have hb:(([]:List (List AV)).length+(ints l).length) * 8≤140737488355328∧([]:List (List AV)).length+(ints l).length≤9223372036854775807:=by rw [List.length_map,List.length_nil];omega
 refine aj.body (fn:=Tryz.f32) rfl rfl rfl rfl ?_;refine qq1 ?_;repeat' first|(refine RM.TU rfl (vn h) (by kernel_rfl) rfl ?_)|(refine RM.QH rfl rfl rfl rfl rfl (fun el hel=>nomatch hel) (fun el hel=>by obtain ⟨x,_,rfl⟩:=List.mem_map.1 hel;rfl) (ki l).1 (vn h) hb (ki l).2 ?_)|refine u1 ?_|refine u2 ?_|fail
 exact ⟨[_],⟨Fz.deep rfl,trivial⟩,rfl⟩
theorem HE (one:Bool) (a:Int) (l:List Int) (full:Bool) (hl:l.length≤maxLen):Pu one 52 [.sl (ints l) full,aC a] (aC (sF (fun x=>decide (a=x)) l)):=by
 have ml:l.length≤9223372036854775807:=Nat.le_trans hl (by simp [maxLen]);have eg:((ints l).length:Int)=l.length:=by simp
 obtain ⟨n,hn⟩:∃ n:Int,n=l.length:=⟨_,rfl⟩;refine aj.body (fn:=Tryz.f52) rfl rfl rfl rfl ?_;refine qq1 ?_;repeat' first|refine u1 ?_|refine u2 ?_|fail
 refine av.aJ (ah.to (l:=[(0,.sl (ints l) full),(1,aC a),(7,aC n),(8,aC (0:Nat))]) (hp:=[]) 0 rfl ⟨rfl,rfl,bq (by rw [hn];exact eg),rfl,trivial⟩ (qq5 _) rfl rfl) ?_;refine av.loop (fun k:Nat=>k≤l.length∧∀ i (h:i < l.length),i < k→decide (a=l[i])=false) (fun k=>⟨aZ [(0,.sl (ints l) full),(1,aC a),(7,aC n),(8,aC (k:Nat))],[],bA.none,false,0⟩) (fun k=>l.length - k) ?_ 0 ⟨qq5 _,fun i _ hi=>absurd hi (Nat.not_lt_zero _)⟩;rintro k ⟨hk,hprev⟩;refine qq1 ?_;by_cases hlt:k < l.length
 ·have d1:decide ((k:Int) < n)=true:=decide_eq_true (by omega);have hat:(ints l)[((k:Nat):Int).toNat]?=some (eI l[k]):=bp hlt
  cases hx:decide (a=l[k]) with
  | true =>
   rw [mG hlt hprev hx]
   generalize l[k]=x at *
   repeat' first|refine u1 ?_|((with_reducible refine qq4 ?_);refine ⟨eI x,⟨by omega,hat⟩,rfl,?_⟩)|refine u2 ?_|fail
   exact ⟨[_],⟨Fz.deep rfl,trivial⟩,rfl⟩
  | false =>
   have hn':∀ i (h:i < l.length),i < k+1→decide (a=l[i])=false:=fun i hi hik=>by
    by_cases e:i=k
    ·subst e;exact hx
    ·exact hprev i hi (by omega)
   generalize l[k]=x at *
   repeat' first|refine u1 ?_|((with_reducible refine qq4 ?_);refine ⟨eI x,⟨by omega,hat⟩,rfl,?_⟩)|refine u2 ?_|fail
   exact ⟨k+1,⟨hlt,hn'⟩,(by dsimp only;omega),ah.to 0 rfl ⟨rfl,rfl,rfl,bq (by simp),trivial⟩ (qq5 _) rfl rfl⟩
 ·have d1:decide ((k:Int) < n)=false:=decide_eq_false (by omega);rw [mH (fun i hi=>hprev i hi (by omega))];repeat' first|refine u1 ?_|refine u2 ?_|fail
  exact ⟨[_],⟨Fz.deep rfl,trivial⟩,rfl⟩
def jo (s:ai) (p:List Order) (f d:Nat):List Int:=(List.range s.needs.length).map fun n=>nG s p f n d
theorem lN {s:ai} {p:List Order} {f d:Nat}:(jo s p f d).length=s.needs.length:=by simp [jo]
theorem Nr {s:ai} (hg:Good s) (p:List Order) (f d:Nat):(ints (jo s p f d)).length=(s.needs.map aQ).length∧(∀ el ∈ ints (jo s p f d),el.length=1) ∧
  (ints (jo s p f d)).flatten=((od fun n=>nG s p f n d).drop 0).take ((s.needs.map aQ).length * 1):=by
 have h:=hg.len;refine ⟨by rw [List.length_map,lN,List.length_map],fun el hel=>by obtain ⟨x,_,rfl⟩:=List.mem_map.1 hel;rfl,?_⟩;rw [List.length_map];unfold jo;obtain e|e|e:s.needs.length=1∨s.needs.length=2∨s.needs.length=3:=by omega
 all_goals rw [e];rfl
def zeroAt (s:ai) (p:List Order) (f d:Nat):Int:=sF (fun x=>decide (0=x)) (jo s p f d)
def jV (s:ai) (p:List Order) (f:Nat):Option (Nat × Int):=((List.range s.days.toNat).find? fun d=>decide (0≤zeroAt s p f d)).map fun d=>(d,zeroAt s p f d)
theorem Di {s:ai} {p:List Order} {f d:Nat} (hd:d < s.days.toNat) (hprev:∀ i,i < d→zeroAt s p f i < 0) (h:0≤zeroAt s p f d):jV s p f=some (d,zeroAt s p f d):=by
 unfold jV;have:(List.range s.days.toNat).find? (fun d=>decide (0≤zeroAt s p f d))=some d:=by rw [List.find?_range_eq_some];refine ⟨decide_eq_true h,by simpa using hd,fun j hj=>?_⟩;have:=hprev j hj;simpa using this
 rw [this];rfl
theorem Dj {s:ai} {p:List Order} {f:Nat} (hprev:∀ i,i < s.days.toNat→zeroAt s p f i < 0):jV s p f=none:=by
 unfold jV;have:(List.range s.days.toNat).find? (fun d=>decide (0≤zeroAt s p f d))=none:=by rw [List.find?_eq_none];intro d hd;have:=hprev d (by simpa using hd);simpa using this
 rw [this];rfl
def yC (s:ai) (p:List Order) (f:Nat):AV:=match jV s p f with
 | some (d,n)=>.tp [.ag [kO f,aC (d:Nat),aC n],BB true]
 | none=>.tp [.ag [kO 0,aC 0,aC 0],BB false]
theorem HF {s:ai} {p:List Order} {f:Nat}:(yC s p f).deep=true:=by unfold yC;split <;> rfl
theorem Dk (one:Bool) {s:ai} {p:List Order} (hp:jC s p) (full:Bool) (f:Nat) (hf:f < 18446744073709551616):Pu one 22 [.ag (ay s),.sl (p.map aD) full,kO f] (yC s p f):=by
 have hg:=hp.good;have hlen:=hg.len;have hm:=E8 one s p full f;have hgen:=Fa one hp full f hf;refine aj.body (fn:=Tryz.f22) rfl rfl rfl HF ?_;refine qq2 ?_;repeat' first|refine u1 ?_|refine u2 ?_|fail
 refine qq2 ?_;repeat' first|refine u1 ?_|((with_reducible refine qq3 ?_);refine aj.call hm rfl rfl ?_)|refine u2 ?_|fail
 refine av.range (fun _=>[.cells [kO 0,aC 0,aC 0] 0 0,.cells [BB false] 0 0]) (fun _=>bA.none) (fun i=>∀ d,d < i→zeroAt s p f d < 0) rfl hgen rfl rfl (fun d hd=>absurd hd (Nat.not_lt_zero _)) (fun i x hx hprev=>?_) (fun hprev=>?_)
 ·obtain ⟨hi,rfl⟩:=Dg hx;refine ⟨rfl,?_⟩;refine qq1 ?_;repeat' first|refine u1 ?_|refine u2 ?_|fail
  refine av.aJ (ah.giveUp 2 (l:=[(3,.pt (ay s) 0),(5,.pt [kO f] 0),(6,.ptr 0 0 0),(7,.ptr 1 0 0),(8,aC (i:Nat)),(9,.pt (od fun n=>nG s p f n i) 0)]) (hp:=[.cells [kO 0,aC 0,aC 0] 0 0,.cells [BB false] 0 0,.gone]) rfl (Nat.le_of_ble_eq_true rfl) rfl ⟨.same rfl,.same rfl,.same rfl,.same rfl,.same rfl,.ptr,trivial⟩ rfl rfl) ?_;have hcut:=Nr hg p f i;have hcb:(s.needs.map aQ).length≤3∧0+(s.needs.map aQ).length * 1≤(od fun n=>nG s p f n i).length:=by rw [List.length_map];exact ⟨hlen.2,by simpa using hlen.2⟩
  have hix:Pu one 52 [.sl (ints (jo s p f i)) (Nat.beq (s.needs.map aQ).length 3),aC 0] (aC (zeroAt s p f i)):=HE one 0 _ _ (by rw [lN];exact Nat.le_trans hlen.2 (by simp [maxLen]));refine qq1 ?_;by_cases hz:0≤zeroAt s p f i
  ·have d1:=decide_eq_true hz;have e:yC s p f=.tp [.ag [kO f,aC (i:Nat),aC (zeroAt s p f i)],BB true]:=by unfold yC;rw [Di hi hprev hz]
   rw [e]
   generalize zeroAt s p f i=z at *
   repeat' first|(refine RM.TS rfl rfl rfl hcb (by decide) hcut ?_)|refine u1 ?_|((with_reducible refine qq3 ?_);refine aj.call hix rfl rfl ?_)|refine u2 ?_|fail
   exact ⟨[_,_],⟨Fz.deep rfl,Fz.deep rfl,trivial⟩,rfl⟩
  ·have d1:=decide_eq_false hz;have hz':zeroAt s p f i < 0:=by omega
   repeat' first|(refine RM.TS rfl rfl rfl hcb (by decide) hcut ?_)|refine u1 ?_|((with_reducible refine qq3 ?_);refine aj.call hix rfl rfl ?_)|refine u2 ?_|fail
   refine ⟨fun d hd=>?_,_,ah.to (l:=[]) 2 rfl trivial (qq6 _) rfl rfl⟩
   ·by_cases e:d=i
    ·subst e;exact hz'
    ·exact hprev d (by omega)
 ·rw [tS] at hprev;have e:yC s p f=.tp [.ag [kO 0,aC 0,aC 0],BB false]:=by unfold yC;rw [Dj hprev]
  rw [e];refine qq1 ?_;repeat' first|refine u1 ?_|refine u2 ?_|fail
  exact ⟨[_,_],⟨Fz.deep rfl,Fz.deep rfl,trivial⟩,rfl⟩
def LM (p:List Order) (f n d i:Nat):Bool:=(List.range i).any fun i=>match p[i]? with
 | some o=>decide (o.day=(d:Int)) && !f.testBit i && hasB o.bw (n:Int)
 | none=>false
theorem LN {p:List Order} {f n d i:Nat} (h:i < p.length):LM p f n d (i+1)=(LM p f n d i || (decide (p[i].day=(d:Int)) && !f.testBit i && hasB p[i].bw (n:Int))):=by unfold LM;rw [List.range_succ,List.any_append,List.any_cons,List.any_nil,Bool.or_false,List.getElem?_eq_getElem h]
def rC (s:ai) (p:List Order) (f D:Nat):List AV:=(List.range D).map fun d=>AV.sl (ints (jo s p f d)) false
def Fb (s:ai) (p:List Order) (f D:Nat):List (List AV):=(List.range D).map fun d=>[AV.sl (ints (jo s p f d)) false]
theorem LO {s:ai} {p:List Order} {f D:Nat}:rC s p f (D+1)=rC s p f D++[AV.sl (ints (jo s p f D)) false]:=by unfold rC;rw [List.range_succ,List.map_append];rfl
theorem Bs {s:ai} {p:List Order} {f D:Nat}:(rC s p f D).length=D:=by simp [rC]
theorem Gu {s:ai} {p:List Order} {f D:Nat}:(Fb s p f D).length=D:=by simp [Fb]
theorem QK {s:ai} {p:List Order} {f D d:Nat} (h:d < D):(rC s p f D)[d]?=some (AV.sl (ints (jo s p f d)) false):=by unfold rC;rw [List.getElem?_map,List.getElem?_range h];rfl
theorem QL {s:ai} {p:List Order} {f D d:Nat} (h:d < D):(Fb s p f D)[d]?=some [AV.sl (ints (jo s p f d)) false]:=by unfold Fb;rw [List.getElem?_map,List.getElem?_range h];rfl
theorem Gw {s:ai} {p:List Order} {f D:Nat}:(Fb s p f D).flatten=rC s p f D:=by
 unfold Fb rC
 induction (List.range D) with
 | nil=>rfl
 | cons a l ih=>simp only [List.map_cons,List.flatten_cons,ih];rfl
theorem qg {α:Type} {g:α→AV} (h:∀ x,(g x).deep=true):∀ l:List α,cC (l.map g)=true
 | []=>rfl
 | x :: l=>by show ((g x).deep && cC (l.map g))=true;rw [h x,qg h l];rfl
theorem LQ {s:ai} {p:List Order} {f D:Nat}:cC (rC s p f D)=true:=qg (fun _=>rfl) _
theorem gM {α:Type} (n:Nat) {g:α→AV} (h:∀ x,(g x).gF n=true):∀ l:List α,qT n (l.map g)=true
 | []=>rfl
 | x :: l=>by show ((g x).gF n && qT n (l.map g))=true;rw [h x,gM n h l];rfl
abbrev bG (l:List Int):List AV:=l.map aC
theorem cK:∀ l:List Int,(ints l).flatten=bG l
 | []=>rfl
 | x :: l=>by show (eI x++(ints l).flatten)=_;rw [cK l];rfl
theorem fu (l:List Int):cC (bG l)=true:=qg (fun _=>rfl) l
theorem Gx {s:ai} {p:List Order} {f D v:Nat}:([.cells (rC s p f D) 1 v]:List AB).all (AB.gF 1)=true:=by have h:AB.gF 1 (.cells (rC s p f D) 1 v)=true:=gM 1 (fun _=>rfl) _;simp only [List.all_cons,List.all_nil,h,Bool.and_true]
theorem jq {s:ai} {p:List Order} {f D v w:Nat} {l:List Int}:([.cells (rC s p f D) 1 v,.cells (bG l) 1 w]:List AB).all (AB.gF 2)=true:=by have h:AB.gF 2 (.cells (rC s p f D) 1 v)=true:=gM 2 (fun _=>rfl) _;have h2:AB.gF 2 (.cells (bG l) 1 w)=true:=gM 2 (fun _=>rfl) _;simp only [List.all_cons,List.all_nil,h,h2,Bool.and_true]
theorem xe {α:Type} (j:Nat) {g:α→AV} (h:∀ x,(g x).gS j=true):∀ l:List α,vi j (l.map g)=true
 | []=>rfl
 | x :: l=>by show ((g x).gS j && vi j (l.map g))=true;rw [h x,xe j h l];rfl
theorem QM {s:ai} {p:List Order} {f D v w:Nat} {l:List Int}:qW 1 0 ([.cells (rC s p f D) 1 v,.cells (bG l) 1 w]:List AB)=true:=by have h:vi 1 (rC s p f D)=true:=xe 1 (fun _=>rfl) _;simp only [qW,AB.gS,h,Nat.beq_refl,Bool.or_true,Bool.true_or,Bool.and_self]
theorem LR {s:ai} {p:List Order} {f d n:Nat} (h:n < s.needs.length):bG ((jo s p f d).take (n+1))=bG ((jo s p f d).take n)++[aC (nG s p f n d)]:=by
 have hl:n < (jo s p f d).length:=by rw [lN];exact h
 unfold bG;rw [List.take_add_one,List.getElem?_eq_getElem hl,List.map_append];simp [jo]
theorem Ns {s:ai} {n:Nat} (h:n < s.needs.length):jD s n=s.needs[n].first∧jE s n=s.needs[n].full:=by unfold jD jE;rw [List.getElem?_eq_getElem h];exact ⟨rfl,rfl⟩
theorem Nt (one:Bool) {s:ai} {p:List Order} (hp:jC s p) (full:Bool) (f:List Int) (ff:Bool) (hf:f.length≤maxLen) (hin:∀ x ∈ f,0≤x∧x < p.length) :
  Pu one 33 [.ag (ay s),.sl (p.map aD) full,.sl (ints f) ff] (.sl (Fb s p (dc f) s.days.toNat) false):=by
 have hg:=hp.good;have hlen:=hg.len;have hdays:=hg.days;have p8:=hp.len;have hbit:=kg hin;have eg:((s.needs.map aQ).length:Int)=s.needs.length:=by simp
 have ep:((p.map aD).length:Int)=p.length:=by simp
 generalize dc f=b at *
 refine aj.body (fn:=Tryz.f33) rfl rfl rfl rfl ?_;refine aa (mu:=fun t=>Nat.beq t 81 || Nat.beq t 85) ?_;repeat' first|refine u1 ?_|refine u2 ?_|fail
 refine av.aJ (ah.trans (ah.jl 1) (ah.Gi (l:=[(1,.sl (p.map aD) full),(2,.sl (ints f) ff),(3,.pt (ay s) 0),(7,.bg 0 ((0:Nat),0,0).2.1 0 ((0:Nat),0,0).1 ((0:Nat),0,0).2.2),(8,aC (((0:Nat),0,0).1:Nat))]) (hp:=[.cells (rC s p b ((0:Nat),0,0).1) 1 ((0:Nat),0,0).2.1]) 1 rfl ⟨aW.refl _,aW.refl _,aW.refl _,aW.jk,aW.refl _,trivial⟩ (qq5 _) rfl Gx)) ?_;refine av.loop (fun x:Nat × Nat × Nat=>(x.1:Int)≤s.days∧(x.2.2=x.1∨x.2.2=x.1+1)) (fun x=>⟨aZ [(1,.sl (p.map aD) full),(2,.sl (ints f) ff),(3,.pt (ay s) 0),(7,.bg 0 x.2.1 0 x.1 x.2.2),(8,aC (x.1:Nat))],[.cells (rC s p b x.1) 1 x.2.1],bA.none,false,0⟩) (fun x=>s.days.toNat - x.1) ?_ (0,0,0) ⟨by dsimp only;omega,.inl rfl⟩;rintro ⟨d,aA,c⟩ ⟨hd,hcap⟩;dsimp only at hd hcap;show av _ _ _ _ ⟨aZ [(1,.sl (p.map aD) full),(2,.sl (ints f) ff),(3,.pt (ay s) 0),(7,.bg 0 (d,aA,c).2.1 0 (d,aA,c).1 (d,aA,c).2.2),(8,aC ((d,aA,c).1:Nat))],[.cells (rC s p b (d,aA,c).1) 1 (d,aA,c).2.1],bA.none,false,0⟩ _;dsimp only;by_cases hdl:(d:Int) < s.days
 ·have d1:=decide_eq_true hdl;refine RM.bx (mu:=fun t=>Nat.beq t 81 || Nat.beq t 85) ?_;repeat' first|refine u1 ?_|refine u2 ?_|fail
  refine av.seq ?_;refine av.block ?_;refine RM.bx (mu:=fun t=>Nat.beq t 81 || Nat.beq t 85) ?_;repeat' first|refine u1 ?_|refine u2 ?_|fail
  refine av.seq ?_;refine RM.bx (mu:=fun t=>Nat.beq t 81 || Nat.beq t 85) ?_;repeat' first|refine u1 ?_|refine u2 ?_|fail
  refine av.aJ (ah.trans (ah.jl 1) (ah.Gi (l:=[(1,.sl (p.map aD) full),(2,.sl (ints f) ff),(3,.pt (ay s) 0),(7,.bg 0 (d,aA,c).2.1 0 (d,aA,c).1 (d,aA,c).2.2),(8,aC ((d,aA,c).1:Nat)),(9,.bg 1 ((0:Nat),0,0).2.1 0 ((0:Nat),0,0).1 ((0:Nat),0,0).2.2),(10,aC (((0:Nat),0,0).1:Nat))]) (hp:=[.cells (rC s p b (d,aA,c).1) 1 (d,aA,c).2.1,.cells (bG ((jo s p b (d,aA,c).1).take ((0:Nat),0,0).1)) 1 ((0:Nat),0,0).2.1]) 2 rfl ⟨aW.refl _,aW.refl _,aW.refl _,aW.refl _,aW.refl _,aW.jk,aW.refl _,trivial⟩ (qq5 _) rfl jq)) ?_;refine av.block ?_;refine av.loop (fun y:Nat × Nat × Nat=>y.1≤s.needs.length∧(y.2.2=y.1∨y.2.2=y.1+1)) (fun y=>⟨aZ [(1,.sl (p.map aD) full),(2,.sl (ints f) ff),(3,.pt (ay s) 0),(7,.bg 0 (d,aA,c).2.1 0 (d,aA,c).1 (d,aA,c).2.2),(8,aC ((d,aA,c).1:Nat)),(9,.bg 1 y.2.1 0 y.1 y.2.2),(10,aC (y.1:Nat))],[.cells (rC s p b (d,aA,c).1) 1 (d,aA,c).2.1,.cells (bG ((jo s p b (d,aA,c).1).take y.1)) 1 y.2.1],bA.none,false,0⟩) (fun y=>s.needs.length - y.1) ?_ (0,0,0) ⟨qq5 _,.inl rfl⟩;rintro ⟨n,ver2,c2⟩ ⟨hn,hcap2⟩;dsimp only at hn hcap2;show av _ _ _ _ ⟨aZ [(1,.sl (p.map aD) full),(2,.sl (ints f) ff),(3,.pt (ay s) 0),(7,.bg 0 (d,aA,c).2.1 0 (d,aA,c).1 (d,aA,c).2.2),(8,aC ((d,aA,c).1:Nat)),(9,.bg 1 (n,ver2,c2).2.1 0 (n,ver2,c2).1 (n,ver2,c2).2.2),(10,aC ((n,ver2,c2).1:Nat))],[.cells (rC s p b (d,aA,c).1) 1 (d,aA,c).2.1,.cells (bG ((jo s p b (d,aA,c).1).take (n,ver2,c2).1)) 1 (n,ver2,c2).2.1],bA.none,false,0⟩ _;dsimp only;by_cases hnl:n < s.needs.length
  ·have d2:decide ((n:Int) < ((s.needs.map aQ).length:Int))=true:=decide_eq_true (by omega);have hnt:(s.needs.map aQ)[((n:Nat):Int).toNat]?=some (aQ s.needs[n]):=bp hnl;obtain ⟨hfst,hful⟩:=Ns hnl;have hlv:=Bq (s:=s) (p:=p) (f:=b) (d:=d) hnl;have htk:=LR (s:=s) (p:=p) (f:=b) (d:=d) hnl;have hgl:(bG ((jo s p b d).take n)).length=n:=by rw [List.length_map,List.length_take,lN];omega
   generalize s.needs[n]=g at *
   have hb0:=SJ hg p b n d;have l4:nG s p b n d=if LM p b n d p.length=true then jE s n else qf s p b n d:=hlv;refine RM.bx (mu:=fun t=>Nat.beq t 81 || Nat.beq t 85) ?_;repeat' first|refine u1 ?_|refine u2 ?_|fail
   refine av.seq ?_;refine av.block ?_;refine RM.bx (mu:=fun t=>Nat.beq t 81 || Nat.beq t 85) ?_;repeat' first|refine u1 ?_|((with_reducible refine qq4 ?_);refine ⟨aQ g,⟨by omega,hnt⟩,rfl,?_⟩)|refine u2 ?_|fail
   refine RM.cutAt (st':=⟨aZ [(1,.sl (p.map aD) full),(2,.sl (ints f) ff),(3,.pt (ay s) 0),(7,.bg 0 (d,aA,c).2.1 0 (d,aA,c).1 (d,aA,c).2.2),(8,aC ((d,aA,c).1:Nat)),(9,.bg 1 (n,ver2,c2).2.1 0 (n,ver2,c2).1 (n,ver2,c2).2.2),(10,aC ((n,ver2,c2).1:Nat)),(11,aC (qf s p b n d))],[.cells (rC s p b (d,aA,c).1) 1 (d,aA,c).2.1,.cells (bG ((jo s p b (d,aA,c).1).take (n,ver2,c2).1)) 1 (n,ver2,c2).2.1],bA.none,false,0⟩) ?_ ?_
   ·cases d with
    | zero =>
     have d3:decide ((0:Int) < ((0:Nat):Int))=false:=by decide
     have hbase:qf s p b n 0=g.first:=hfst
     rw [hbase];refine aa (mu:=fun t=>Nat.beq t 81 || Nat.beq t 85) ?_;repeat' first|refine u1 ?_|refine u2 ?_|fail
     exact .is (ah.to 2 rfl ⟨rfl,rfl,rfl,rfl,rfl,rfl,rfl,rfl,trivial⟩ (qq5 _) rfl jq)
    | succ d' =>
     have d3:decide ((0:Int) < ((d'+1:Nat):Int))=true:=decide_eq_true (by omega);have hat0:(rC s p b (d'+1))[0+(((d'+1:Nat):Int) - 1).toNat * 1]?=some (AV.sl (ints (jo s p b d')) false):=by rw [show 0+(((d'+1:Nat):Int) - 1).toNat * 1=d' by omega];exact QK (Nat.lt_succ_self _)
     have hlt:(ints (jo s p b d'))[((n:Nat):Int).toNat]?=some (eI (nG s p b n d')):=by rw [Int.toNat_natCast,List.getElem?_map];unfold jo;rw [List.getElem?_map,List.getElem?_range hnl];rfl
     have hb:=LK hg p b n d';have hbase:qf s p b n (d'+1)=max 0 (nG s p b n d' - 1):=rfl;rw [hbase]
     generalize nG s p b n d'=v at *
     refine aa (mu:=fun t=>Nat.beq t 81 || Nat.beq t 85) ?_;repeat' first|((with_reducible show RM.wpOp _ _ (.load _ _) _ _ _);refine RM.MA rfl rfl rfl hat0 ?_)|refine u1 ?_|((with_reducible refine qq4 ?_);refine ⟨eI v,⟨by omega,hlt⟩,rfl,?_⟩)|refine u2 ?_|fail
     exact .is (ah.to 2 rfl ⟨rfl,rfl,rfl,rfl,rfl,rfl,rfl,rfl,trivial⟩ (qq5 _) rfl jq)
   refine RM.cutAt (st':=⟨aZ [(1,.sl (p.map aD) full),(2,.sl (ints f) ff),(3,.pt (ay s) 0),(7,.bg 0 (d,aA,c).2.1 0 (d,aA,c).1 (d,aA,c).2.2),(8,aC ((d,aA,c).1:Nat)),(9,.bg 1 (n,ver2,c2).2.1 0 (n,ver2,c2).1 (n,ver2,c2).2.2),(10,aC ((n,ver2,c2).1:Nat)),(11,aC (nG s p b n d))],[.cells (rC s p b (d,aA,c).1) 1 (d,aA,c).2.1,.cells (bG ((jo s p b (d,aA,c).1).take (n,ver2,c2).1)) 1 (n,ver2,c2).2.1],bA.none,false,0⟩) ?_ ?_
   ·refine RM.bx (mu:=fun t=>Nat.beq t 81 || Nat.beq t 85) ?_;repeat' first|refine u1 ?_|refine u2 ?_|fail
    refine av.aJ (ah.to (l:=[(1,.sl (p.map aD) full),(2,.sl (ints f) ff),(3,.pt (ay s) 0),(7,.bg 0 (d,aA,c).2.1 0 (d,aA,c).1 (d,aA,c).2.2),(8,aC ((d,aA,c).1:Nat)),(9,.bg 1 (n,ver2,c2).2.1 0 (n,ver2,c2).1 (n,ver2,c2).2.2),(10,aC ((n,ver2,c2).1:Nat)),(11,aC (if LM p b (n,ver2,c2).1 (d,aA,c).1 0=true then jE s (n,ver2,c2).1 else qf s p b (n,ver2,c2).1 (d,aA,c).1)),(12,aC (0:Nat))]) (hp:=[.cells (rC s p b (d,aA,c).1) 1 (d,aA,c).2.1,.cells (bG ((jo s p b (d,aA,c).1).take (n,ver2,c2).1)) 1 (n,ver2,c2).2.1]) 2 rfl ⟨rfl,rfl,rfl,rfl,rfl,rfl,rfl,rfl,rfl,trivial⟩ (qq5 _) rfl jq) ?_;refine av.block ?_;refine av.loop (fun i:Nat=>i≤p.length) (fun i=>⟨aZ [(1,.sl (p.map aD) full),(2,.sl (ints f) ff),(3,.pt (ay s) 0),(7,.bg 0 (d,aA,c).2.1 0 (d,aA,c).1 (d,aA,c).2.2),(8,aC ((d,aA,c).1:Nat)),(9,.bg 1 (n,ver2,c2).2.1 0 (n,ver2,c2).1 (n,ver2,c2).2.2),(10,aC ((n,ver2,c2).1:Nat)),(11,aC (if LM p b (n,ver2,c2).1 (d,aA,c).1 i=true then jE s (n,ver2,c2).1 else qf s p b (n,ver2,c2).1 (d,aA,c).1)),(12,aC (i:Nat))],[.cells (rC s p b (d,aA,c).1) 1 (d,aA,c).2.1,.cells (bG ((jo s p b (d,aA,c).1).take (n,ver2,c2).1)) 1 (n,ver2,c2).2.1],bA.none,false,0⟩) (fun i=>p.length - i) ?_ 0 (qq5 _);intro i hi;by_cases hil:i < p.length
    ·have d3:decide ((i:Int) < ((p.map aD).length:Int))=true:=decide_eq_true (by omega);have hat:(p.map aD)[((i:Nat):Int).toNat]?=some (aD p[i]):=bp hil;have hsu:=LN (f:=b) (n:=n) (d:=d) hil;have hor:=hp.order _ (List.getElem_mem hil)
     generalize p[i]=o at *
     rw [hbit] at hsu;have o1:=Gq one f ff (i:Int) hf;have o2:=Gq one o.bw false (n:Int) (Nat.le_trans hor.len (Nat.le_trans hlen.2 (by simp [maxLen])));have keep:∀ {x:Bool},LM p b n d (i+1)=(LM p b n d i || x)→x=false→(if LM p b n d i=true then jE s n else qf s p b n d)=if LM p b n d (i+1)=true then jE s n else qf s p b n d:=fun h1 h2=>by rw [h1,h2,Bool.or_false]
     by_cases q1:o.day=(d:Int)
     ·have e1:=decide_eq_true q1
      cases q2:hasB f (i:Int) with
      | true =>
       rw [q2] at o1 hsu;have hk:=keep hsu (by simp);refine aa (mu:=fun t=>Nat.beq t 81 || Nat.beq t 85) ?_;repeat' first|refine u1 ?_|((with_reducible refine qq4 ?_);refine ⟨aD o,⟨by omega,hat⟩,rfl,?_⟩)|((with_reducible refine qq3 ?_);refine aj.call o1 rfl rfl ?_)|((with_reducible refine qq3 ?_);refine aj.call o2 rfl rfl ?_)|refine u2 ?_|fail
       exact ⟨i+1,hil,(by dsimp only;omega),ah.to 2 rfl ⟨rfl,rfl,rfl,rfl,rfl,rfl,rfl,bq hk,bq (by simp),trivial⟩ (qq5 _) rfl jq⟩
      | false =>
       rw [q2] at o1 hsu
       cases q3:hasB o.bw (n:Int) with
       | false =>
        rw [q3] at o2 hsu;have hk:=keep hsu (by simp);refine aa (mu:=fun t=>Nat.beq t 81 || Nat.beq t 85) ?_;repeat' first|refine u1 ?_|((with_reducible refine qq4 ?_);refine ⟨aD o,⟨by omega,hat⟩,rfl,?_⟩)|((with_reducible refine qq3 ?_);refine aj.call o1 rfl rfl ?_)|((with_reducible refine qq3 ?_);refine aj.call o2 rfl rfl ?_)|refine u2 ?_|fail
        exact ⟨i+1,hil,(by dsimp only;omega),ah.to 2 rfl ⟨rfl,rfl,rfl,rfl,rfl,rfl,rfl,bq hk,bq (by simp),trivial⟩ (qq5 _) rfl jq⟩
       | true =>
        rw [q3,e1] at hsu;rw [q3] at o2;have hk:g.full=if LM p b n d (i+1)=true then jE s n else qf s p b n d:=by rw [hsu,if_pos (by simp)];exact hful.symm
        refine aa (mu:=fun t=>Nat.beq t 81 || Nat.beq t 85) ?_;repeat' first|refine u1 ?_|((with_reducible refine qq4 ?_);refine ⟨aD o,⟨by omega,hat⟩,rfl,?_⟩)|((with_reducible refine qq4 ?_);refine ⟨aQ g,⟨by omega,hnt⟩,rfl,?_⟩)|((with_reducible refine qq3 ?_);refine aj.call o1 rfl rfl ?_)|((with_reducible refine qq3 ?_);refine aj.call o2 rfl rfl ?_)|refine u2 ?_|fail
        exact ⟨i+1,hil,(by dsimp only;omega),ah.to 2 rfl ⟨rfl,rfl,rfl,rfl,rfl,rfl,rfl,bq hk,bq (by simp),trivial⟩ (qq5 _) rfl jq⟩
     ·have e1:=decide_eq_false q1;rw [e1] at hsu;have hk:=keep hsu (by simp);refine aa (mu:=fun t=>Nat.beq t 81 || Nat.beq t 85) ?_;repeat' first|refine u1 ?_|((with_reducible refine qq4 ?_);refine ⟨aD o,⟨by omega,hat⟩,rfl,?_⟩)|((with_reducible refine qq3 ?_);refine aj.call o1 rfl rfl ?_)|((with_reducible refine qq3 ?_);refine aj.call o2 rfl rfl ?_)|refine u2 ?_|fail
      exact ⟨i+1,hil,(by dsimp only;omega),ah.to 2 rfl ⟨rfl,rfl,rfl,rfl,rfl,rfl,rfl,bq hk,bq (by simp),trivial⟩ (qq5 _) rfl jq⟩
    ·have d3:decide ((i:Int) < ((p.map aD).length:Int))=false:=decide_eq_false (by omega);have hie:i=p.length:=by omega
     subst hie;rw [←l4];refine aa (mu:=fun t=>Nat.beq t 81 || Nat.beq t 85) ?_;repeat' first|refine u1 ?_|refine u2 ?_|fail
     exact .is (ah.to 2 rfl ⟨rfl,rfl,rfl,rfl,rfl,rfl,rfl,rfl,trivial⟩ (qq5 _) rfl jq)
   ·refine aa (mu:=fun t=>Nat.beq t 81 || Nat.beq t 85) ?_;repeat' first|((with_reducible show RM.wpOp _ _ (.call _) _ _ _);refine RM.l5 (cs:=bG ((jo s p b d).take n)) (n:=n) (els:=[eI (nG s p b n d)]) rfl rfl rfl rfl rfl (fun el hel=>by rw [List.mem_singleton.1 hel];rfl) rfl rfl (by rw [hgl];exact (Nat.mul_one _).symm) hcap2 (by simp only [List.length_singleton];omega) (fun v' c' hc'=>?_))|refine u1 ?_|refine u2 ?_|fail
    refine aa (mu:=fun t=>Nat.beq t 81 || Nat.beq t 85) ?_;repeat' first|refine u1 ?_|refine u2 ?_|fail
    refine ⟨(n+1,v',c'),⟨hnl,hc'⟩,(by dsimp only;omega),ah.to 2 (by dsimp only;rw [htk];rfl) ⟨rfl,rfl,rfl,rfl,rfl,rfl,bq (by simp),trivial⟩ (qq5 _) rfl jq⟩
  ·have d2:decide ((n:Int) < ((s.needs.map aQ).length:Int))=false:=decide_eq_false (by omega);have hne:n=s.needs.length:=by omega
   have hall:(jo s p b d).take n=jo s p b d:=List.take_of_length_le (by rw [lN];omega);rw [hall];have hll:=lN (s:=s) (p:=p) (f:=b) (d:=d);have hgl:(rC s p b d).length=d:=Bs;refine aa (mu:=fun t=>Nat.beq t 81 || Nat.beq t 85) ?_;repeat' first|refine u1 ?_|refine u2 ?_|fail
   refine av.aJ (ah.giveUp 1 (l:=[(1,.sl (p.map aD) full),(2,.sl (ints f) ff),(3,.pt (ay s) 0),(7,.bg 0 (d,aA,c).2.1 0 (d,aA,c).1 (d,aA,c).2.2),(8,aC ((d,aA,c).1:Nat)),(9,.sl (ints (jo s p b d)) false)]) (hp:=[.cells (rC s p b (d,aA,c).1) 1 (d,aA,c).2.1,.gone]) rfl (qq5 _) (fu _) ⟨.same rfl,.same rfl,.same rfl,.same rfl,.same rfl,.row 1 (by rw [List.length_map,hll];omega) (by rw [List.length_map,hll];omega) (fun el hel=>by obtain ⟨x,_,rfl⟩:=List.mem_map.1 hel;rfl) (by rw [cK,List.drop_zero,List.take_of_length_le (by rw [List.length_map,hll];omega)]) (fun h=>Bool.noConfusion h),trivial⟩ QM rfl) ?_;refine aa (mu:=fun t=>Nat.beq t 81 || Nat.beq t 85) ?_;repeat' first|((with_reducible show RM.wpOp _ _ (.call _) _ _ _);refine RM.l5 (cs:=rC s p b d) (n:=d) (els:=[[AV.sl (ints (jo s p b d)) false]]) rfl rfl rfl rfl rfl (fun el hel=>by rw [List.mem_singleton.1 hel];rfl) rfl rfl (by rw [hgl];exact (Nat.mul_one _).symm) hcap (by simp only [List.length_singleton];omega) (fun v' c' hc'=>?_))|refine u1 ?_|refine u2 ?_|fail
   refine aa (mu:=fun t=>Nat.beq t 81 || Nat.beq t 85) ?_;repeat' first|refine u1 ?_|refine u2 ?_|fail
   refine ⟨(d+1,v',c'),⟨by dsimp only;omega,hc'⟩,(by dsimp only;omega),ah.to 1 (by dsimp only;rw [LO];rfl) ⟨rfl,rfl,rfl,rfl,bq (by simp),trivial⟩ (qq5 _) rfl Gx⟩
 ·have d1:=decide_eq_false hdl;have hde:d=s.days.toNat:=by omega
  refine aa (mu:=fun t=>Nat.beq t 81 || Nat.beq t 85) ?_;repeat' first|refine u1 ?_|refine u2 ?_|fail
  subst hde;exact ⟨[_],⟨Fz.row (es:=1) rfl (by rw [Bs];omega) Gu (fun el hel=>by obtain ⟨x,_,rfl⟩:=List.mem_map.1 hel;rfl) (by rw [Gw,List.drop_zero,List.take_of_length_le (by rw [Bs];omega)]) (by rw [Gw];exact LQ) (fun h=>Bool.noConfusion h),trivial⟩,rfl⟩
