/-
  Contracts of the program's functions and of the document's. Lemmas alone; their conditions stand in them.
-/
import Derived.Test.YtpeogffeoehboaaDoorA3
import Derived.Test.YtpeogffeoehboaaDoorK6
open Go Go.RM
namespace Go.Proofs.YtpeogffeoehboaaDoor
set_option maxRecDepth 100000
set_option maxHeartbeats 4000000
def sM (s:ay) (p:List Order) (f:List Int):Int × Int × Int :=
 if gQ s p f ≠ 0 then (0,0,gQ s p f) else match wv s p (cc f) with
 | some (d,n)=>((d:Nat),n,0)
 | none=>(0,0,4)
theorem kC {s:ay} {p:List Order} {f:List Int} (h:gQ s p f=0):mo s p∧(∀ x ∈ f,0≤x∧x < p.length)∧(dD s p).2=0∧fS f p.length=0:=by
 unfold gQ at h
 split at h
 ·rename_i h1
  exact ⟨yC h1,(lQ h).1,h1,h⟩
 ·rename_i h1;exact absurd h h1
theorem pT {s:ay} {p:List Order} {f:List Int} (h:gQ s p f=0):cc f < 256:=by
 obtain ⟨h1,h2,_⟩:=kC h
 exact Nat.lt_of_lt_of_le (yH h2) (show 2 ^ p.length≤2 ^ 8 from Nat.pow_le_pow_right (by decide) h1.len)
theorem Kz (one:Bool) (s:ay) (hs:s.Ok) (p:List Order) (full:Bool) (hp:B1 p) (f:List Int) (ff:Bool) (hf:f.length≤maxLen):Pu one 20 [.ag (az s),.sl (p.map av) full,.sl (ints f) ff] (.tp [aD (sM s p f).1,aD (sM s p f).2.1,aD (sM s p f).2.2]):=by
 have o1:=Bb one s hs p full hp f ff hf
 unfold sM
 by_cases c1:gQ s p f=0
 ·rw [if_neg (by omega)]
  obtain ⟨hpg,hin,_⟩:=kC c1
  have hfb:=pT c1
  rw [if_pos c1,c1] at o1
  have o2:=E9 one hpg full (cc f) (by omega)
  have d0:(!decide ((0:Int)=0))=false:=by decide
  unfold yM at o2
  cases hb:wv s p (cc f) with
  | some x =>
   obtain ⟨d,n⟩:=x
   rw [hb] at o2
   generalize cc f=b at *
   refine af.body (fn:=Tryd.f20) rfl rfl rfl rfl ?_
   refine ah (mu:=fun _=>false) ?_
   repeat' (first |refine u1 ?_ |((with_reducible show ak _ _ _ _ _ _ _ _);refine af.call o1 rfl rfl ?_) |((with_reducible show ak _ _ _ _ _ _ _ _);refine af.call o2 rfl rfl ?_) |refine u2 ?_ |fail)
   exact ⟨[_,_,_],⟨Fz.deep rfl,Fz.deep rfl,Fz.deep rfl,trivial⟩,rfl⟩
  | none =>
   rw [hb] at o2
   generalize cc f=b at *
   refine af.body (fn:=Tryd.f20) rfl rfl rfl rfl ?_
   refine ah (mu:=fun _=>false) ?_
   repeat' (first |refine u1 ?_ |((with_reducible show ak _ _ _ _ _ _ _ _);refine af.call o1 rfl rfl ?_) |((with_reducible show ak _ _ _ _ _ _ _ _);refine af.call o2 rfl rfl ?_) |refine u2 ?_ |fail)
   exact ⟨[_,_,_],⟨Fz.deep rfl,Fz.deep rfl,Fz.deep rfl,trivial⟩,rfl⟩
 ·rw [if_pos c1]
  rw [if_neg c1] at o1
  generalize gQ s p f=e at *
  have d1:(!decide (e=0))=true:=by rw [decide_eq_false c1];rfl
  refine af.body (fn:=Tryd.f20) rfl rfl rfl rfl ?_
  refine ah (mu:=fun _=>false) ?_
  repeat' (first |refine u1 ?_ |((with_reducible show ak _ _ _ _ _ _ _ _);refine af.call o1 rfl rfl ?_) |refine u2 ?_ |fail)
  exact ⟨[_,_,_],⟨Fz.deep rfl,Fz.deep rfl,Fz.deep rfl,trivial⟩,rfl⟩
def dF (s:ay) (p:List Order) (f:List Int) (day:Int):Int:=if gQ s p f ≠ 0 then gQ s p f else if ei 0 (s.days - 1) [day]=true then 7 else 0
def dR (s:ay) (p:List Order) (f:List Int) (day:Int):AV:=if dF s p f day=0 then .sl (ints (dI s p (cc f) day.toNat)) false else .fl (.slice none 0 0)
theorem Ae (one:Bool) (s:ay) (hs:s.Ok) (p:List Order) (full:Bool) (hp:B1 p) (f:List Int) (ff:Bool) (hf:f.length≤maxLen) (day:Int):Pu one 17 [.ag (az s),.sl (p.map av) full,.sl (ints f) ff,aD day] (.tp [dR s p f day,aD (dF s p f day)]):=by
 have o1:=Bb one s hs p full hp f ff hf
 by_cases c1:gQ s p f=0
 ·obtain ⟨hpg,hin,_⟩:=kC c1
  have hg:=hpg.good
  have hdays:=hg.days
  have hlen:=hg.len
  have hfb:=pT c1
  rw [if_pos c1,c1] at o1
  have o3:=fO one 0 (s.days - 1) day
  have d0:(!decide ((0:Int)=0))=false:=by decide
  cases c2:ei 0 (s.days - 1) [day] with
  | true =>
   rw [c2] at o3
   have e1:dF s p f day=7:=by unfold dF;rw [if_neg (by omega),if_pos c2]
   have e2:dR s p f day=.fl (.slice none 0 0):=by unfold dR;rw [e1];rfl
   rw [e1,e2]
   refine af.body (fn:=Tryd.f17) rfl rfl rfl rfl ?_
   refine ah (mu:=fun _=>false) ?_
   repeat' (first |refine u1 ?_ |((with_reducible show ak _ _ _ _ _ _ _ _);refine af.call o1 rfl rfl ?_) |((with_reducible show ak _ _ _ _ _ _ _ _);refine af.call o3 rfl rfl ?_) |refine u2 ?_ |fail)
   exact ⟨[_,_],⟨Fz.deep rfl,Fz.deep rfl,trivial⟩,rfl⟩
  | false =>
   rw [c2] at o3
   have hday:=bA c2
   have e1:dF s p f day=0:=by unfold dF;rw [if_neg (by omega),if_neg (by rw [c2];simp)]
   have e2:dR s p f day=.sl (ints (dI s p (cc f) day.toNat)) false:=by unfold dR;rw [if_pos e1]
   rw [e1,e2]
   generalize cc f=b at *
   have hm:=sJ one s p full b
   have hgen:=sL one hpg full b (by omega)
   refine af.body (fn:=Tryd.f17) rfl rfl rfl rfl ?_
   refine RM.qk (mu:=fun _=>false) ?_
   repeat' (first |refine u1 ?_ |refine u2 ?_ |fail)
   refine RM.qk (mu:=fun _=>false) ?_
   repeat' (first |refine u1 ?_ |((with_reducible show ak _ _ _ _ _ _ _ _);refine af.call o1 rfl rfl ?_) |refine u2 ?_ |fail)
   refine RM.qk (mu:=fun _=>false) ?_
   repeat' (first |refine u1 ?_ |((with_reducible show ak _ _ _ _ _ _ _ _);refine af.call o3 rfl rfl ?_) |refine u2 ?_ |fail)
   refine RM.qk (mu:=fun _=>false) ?_
   repeat' (first |refine u1 ?_ |((with_reducible show ak _ _ _ _ _ _ _ _);refine af.call hm rfl rfl ?_) |refine u2 ?_ |fail)
   refine aF.range (fun _=>[.cells [.fl (.slice none 0 0)] 0 0,.cells [aD 0] 0 0]) (fun _=>cF.none) (fun i=>i≤day.toNat) rfl hgen rfl rfl (Nat.zero_le _) (fun i x hx hprev=>?_) (fun hprev=>?_)
   ·obtain ⟨hi,rfl⟩:=sI hx
    refine ⟨rfl,?_⟩
    refine ah (mu:=fun _=>false) ?_
    repeat' (first |refine u1 ?_ |refine u2 ?_ |fail)
    refine aF.bf (ax.giveUp 2 (l:=[(4,.pt (az s) 0),(7,.pt [aD day] 0),(8,.ptr 0 0 0),(9,.ptr 1 0 0),(12,aD (i:Nat)),(13,.pt (jR fun n=>iP s p b n i) 0)]) (hp:=[.cells [.fl (.slice none 0 0)] 0 0,.cells [aD 0] 0 0,.gone]) rfl (Nat.le_of_ble_eq_true rfl) rfl ⟨.same rfl,.same rfl,.same rfl,.same rfl,.same rfl,.ptr,trivial⟩ rfl rfl) ?_
    refine ah (mu:=fun _=>false) ?_
    by_cases hz:(i:Int)=day
    ·have d1:=decide_eq_true hz
     have hit:day.toNat=i:=by omega
     rw [hit]
     have hcut:=Bi hg p b i
     have hcb:(s.needs.map aG).length≤3∧0+(s.needs.map aG).length * 1≤(jR fun n=>iP s p b n i).length:=by
      rw [List.length_map]
      exact ⟨hlen.2,by simpa using hlen.2⟩
     have hcl:=F6 one (dI s p b i) (Nat.beq (s.needs.map aG).length 3) (fun e=>by have:=eO (s:=s) (p:=p) (f:=b) (d:=i);rw [e] at this;simp at this;omega) (by rw [eO];omega)
     repeat' (first |(refine RM.K0 rfl rfl rfl hcb (by decide) hcut ?_) |refine u1 ?_ |((with_reducible show ak _ _ _ _ _ _ _ _);refine af.call hcl rfl rfl ?_) |refine u2 ?_ |fail)
     exact ⟨[_,_],⟨Fz.deep rfl,Fz.deep rfl,trivial⟩,rfl⟩
    ·have d1:=decide_eq_false hz
     repeat' (first |refine u1 ?_ |refine u2 ?_ |fail)
     exact ⟨_,ax.to (l:=[]) 2 rfl trivial (Nat.le_refl _) rfl rfl⟩
   ·rw [lR] at hprev
    omega
 ·have e1:dF s p f day=gQ s p f:=by unfold dF;rw [if_pos c1]
  have e2:dR s p f day=.fl (.slice none 0 0):=by unfold dR;rw [e1,if_neg c1]
  rw [e1,e2]
  rw [if_neg c1] at o1
  generalize gQ s p f=e at *
  have d1:(!decide (e=0))=true:=by rw [decide_eq_false c1];rfl
  refine af.body (fn:=Tryd.f17) rfl rfl rfl rfl ?_
  refine ah (mu:=fun _=>false) ?_
  repeat' (first |refine u1 ?_ |((with_reducible show ak _ _ _ _ _ _ _ _);refine af.call o1 rfl rfl ?_) |refine u2 ?_ |fail)
  exact ⟨[_,_],⟨Fz.deep rfl,Fz.deep rfl,trivial⟩,rfl⟩
end Go.Proofs.YtpeogffeoehboaaDoor
open Go Go.RM
namespace Go.Proofs.YtpeogffeoehboaaDoor
set_option maxRecDepth 100000
set_option maxHeartbeats 4000000
def nY (p:List Order) (f n d i:Nat):Bool:=(List.range i).any fun i=>match p[i]? with
 | some o=>decide (o.day=(d:Int)) && !f.testBit i && hasB o.aB (n:Int)
 | none=>false
theorem Bj {p:List Order} {f n d:Nat}:nY p f n d p.length=Bc p f n d:=rfl
theorem sN {p:List Order} {f n d i:Nat} (h:i < p.length):nY p f n d (i+1)=(nY p f n d i || (decide (p[i].day=(d:Int)) && !f.testBit i && hasB p[i].aB (n:Int))):=by
 unfold nY
 rw [List.range_succ,List.any_append,List.any_cons,List.any_nil,Bool.or_false,List.getElem?_eq_getElem h]
def mL (s:ay) (p:List Order) (f D:Nat):List AV:=(List.range D).map fun d=>AV.sl (ints (dI s p f d)) false
def yT (s:ay) (p:List Order) (f D:Nat):List (List AV):=(List.range D).map fun d=>[AV.sl (ints (dI s p f d)) false]
theorem Fa {s:ay} {p:List Order} {f D:Nat}:mL s p f (D+1)=mL s p f D++[AV.sl (ints (dI s p f D)) false]:=by
 unfold mL
 rw [List.range_succ,List.map_append]
 rfl
theorem wz {s:ay} {p:List Order} {f D:Nat}:(mL s p f D).length=D:=by simp [mL]
theorem Bk {s:ay} {p:List Order} {f D:Nat}:(yT s p f D).length=D:=by simp [yT]
theorem Je {s:ay} {p:List Order} {f D d:Nat} (h:d < D):(mL s p f D)[d]?=some (AV.sl (ints (dI s p f d)) false):=by
 unfold mL
 rw [List.getElem?_map,List.getElem?_range h]
 rfl
theorem Fb {s:ay} {p:List Order} {f D d:Nat} (h:d < D):(yT s p f D)[d]?=some [AV.sl (ints (dI s p f d)) false]:=by
 unfold yT
 rw [List.getElem?_map,List.getElem?_range h]
 rfl
theorem Bl {s:ay} {p:List Order} {f D:Nat}:(yT s p f D).flatten=mL s p f D:=by
 unfold yT mL
 induction (List.range D) with
 | nil=>rfl
 | cons a l ih=>simp only [List.map_cons,List.flatten_cons,ih];rfl
theorem pg {α:Type} {g:α→AV} (h:∀ x,(g x).deep=true):∀ l:List α,ct (l.map g)=true
 | []=>rfl
 | x :: l=>by
  show ((g x).deep && ct (l.map g))=true
  rw [h x,pg h l]
  rfl
theorem Fc {s:ay} {p:List Order} {f D:Nat}:ct (mL s p f D)=true:=pg (fun _=>rfl) _
theorem nX {α:Type} (n:Nat) {g:α→AV} (h:∀ x,(g x).jQ n=true):∀ l:List α,oR n (l.map g)=true
 | []=>rfl
 | x :: l=>by
  show ((g x).jQ n && oR n (l.map g))=true
  rw [h x,nX n h l]
  rfl
abbrev lB (l:List Int):List AV:=l.map aD
theorem uQ:∀ l:List Int,(ints l).flatten=lB l
 | []=>rfl
 | x :: l=>by
  show (eI x++(ints l).flatten)=_
  rw [uQ l]
  rfl
theorem B4 (l:List Int):ct (lB l)=true:=pg (fun _=>rfl) l
theorem Bm {s:ay} {p:List Order} {f D v:Nat}:([.cells (mL s p f D) 1 v]:List AB).all (AB.jQ 1)=true:=by
 have h:AB.jQ 1 (.cells (mL s p f D) 1 v)=true:=nX 1 (fun _=>rfl) _
 simp only [List.all_cons,List.all_nil,h,Bool.and_true]
theorem gu {s:ay} {p:List Order} {f D v w:Nat} {l:List Int}:([.cells (mL s p f D) 1 v,.cells (lB l) 1 w]:List AB).all (AB.jQ 2)=true:=by
 have h:AB.jQ 2 (.cells (mL s p f D) 1 v)=true:=nX 2 (fun _=>rfl) _
 have h2:AB.jQ 2 (.cells (lB l) 1 w)=true:=nX 2 (fun _=>rfl) _
 simp only [List.all_cons,List.all_nil,h,h2,Bool.and_true]
theorem yN {α:Type} (j:Nat) {g:α→AV} (h:∀ x,(g x).kO j=true):∀ l:List α,sw j (l.map g)=true
 | []=>rfl
 | x :: l=>by
  show ((g x).kO j && sw j (l.map g))=true
  rw [h x,yN j h l]
  rfl
theorem Jf {s:ay} {p:List Order} {f D v w:Nat} {l:List Int}:oV 1 0 ([.cells (mL s p f D) 1 v,.cells (lB l) 1 w]:List AB)=true:=by
 have h:sw 1 (mL s p f D)=true:=yN 1 (fun _=>rfl) _
 simp only [oV,AB.kO,h,Nat.beq_refl,Bool.or_true,Bool.true_or,Bool.and_self]
theorem Fe {s:ay} {p:List Order} {f d n:Nat} (h:n < s.needs.length):lB ((dI s p f d).take (n+1))=lB ((dI s p f d).take n)++[aD (iP s p f n d)]:=by
 have hl:n < (dI s p f d).length:=by rw [eO];exact h
 unfold lB
 rw [List.take_add_one,List.getElem?_eq_getElem hl,List.map_append]
 simp [dI]
theorem wA {s:ay} {n:Nat} (h:n < s.needs.length):gK s n=s.needs[n].first∧gm s n=s.needs[n].full:=by
 unfold gK gm
 rw [List.getElem?_eq_getElem h]
 exact ⟨rfl,rfl⟩
theorem Bn (one:Bool) {s:ay} {p:List Order} (hp:mo s p) (full:Bool) (f:List Int) (ff:Bool) (hf:f.length≤maxLen) (hin:∀ x ∈ f,0≤x∧x < p.length) :
  Pu one 53 [.ag (az s),.sl (p.map av) full,.sl (ints f) ff] (.sl (yT s p (cc f) s.days.toNat) false):=by
 have hg:=hp.good
 have hlen:=hg.len
 have hdays:=hg.days
 have p8:=hp.len
 have hbit:=oY hin
 have eg:((s.needs.map aG).length:Int)=s.needs.length:=by simp
 have ep:((p.map av).length:Int)=p.length:=by simp
 generalize cc f=b at *
 refine af.body (fn:=Tryd.f53) rfl rfl rfl rfl ?_
 refine ah (mu:=fun t=>Nat.beq t 81 || Nat.beq t 85) ?_
 repeat' (first |refine u1 ?_ |refine u2 ?_ |fail)
 refine aF.bf (ax.trans (ax.zR 1) (ax.KM (l:=[(1,.sl (p.map av) full),(2,.sl (ints f) ff),(3,.pt (az s) 0),(7,.cQ 0 ((0:Nat),0,0).2.1 0 ((0:Nat),0,0).1 ((0:Nat),0,0).2.2),(8,aD (((0:Nat),0,0).1:Nat))]) (hp:=[.cells (mL s p b ((0:Nat),0,0).1) 1 ((0:Nat),0,0).2.1]) 1 rfl ⟨fN.refl _,fN.refl _,fN.refl _,fN.zQ,fN.refl _,trivial⟩ (Nat.zero_le _) rfl Bm)) ?_
 refine aF.loop (fun x:Nat × Nat × Nat=>(x.1:Int)≤s.days∧(x.2.2=x.1∨x.2.2=x.1+1)) (fun x=>⟨bZ [(1,.sl (p.map av) full),(2,.sl (ints f) ff),(3,.pt (az s) 0),(7,.cQ 0 x.2.1 0 x.1 x.2.2),(8,aD (x.1:Nat))],[.cells (mL s p b x.1) 1 x.2.1],cF.none,false,0⟩) (fun x=>s.days.toNat - x.1) ?_ (0,0,0) ⟨by dsimp only;omega,.inl rfl⟩
 rintro ⟨d,ver,c⟩ ⟨hd,hcap⟩
 dsimp only at hd hcap
 show aF _ _ _ _ ⟨bZ [(1,.sl (p.map av) full),(2,.sl (ints f) ff),(3,.pt (az s) 0),(7,.cQ 0 (d,ver,c).2.1 0 (d,ver,c).1 (d,ver,c).2.2),(8,aD ((d,ver,c).1:Nat))],[.cells (mL s p b (d,ver,c).1) 1 (d,ver,c).2.1],cF.none,false,0⟩ _
 dsimp only
 by_cases hdl:(d:Int) < s.days
 ·have d1:=decide_eq_true hdl
  refine RM.qk (mu:=fun t=>Nat.beq t 81 || Nat.beq t 85) ?_
  repeat' (first |refine u1 ?_ |refine u2 ?_ |fail)
  refine aF.seq ?_
  refine aF.block ?_
  refine RM.qk (mu:=fun t=>Nat.beq t 81 || Nat.beq t 85) ?_
  repeat' (first |refine u1 ?_ |refine u2 ?_ |fail)
  refine aF.seq ?_
  refine RM.qk (mu:=fun t=>Nat.beq t 81 || Nat.beq t 85) ?_
  repeat' (first |refine u1 ?_ |refine u2 ?_ |fail)
  refine aF.bf (ax.trans (ax.zR 1) (ax.KM (l:=[(1,.sl (p.map av) full),(2,.sl (ints f) ff),(3,.pt (az s) 0),(7,.cQ 0 (d,ver,c).2.1 0 (d,ver,c).1 (d,ver,c).2.2),(8,aD ((d,ver,c).1:Nat)),(9,.cQ 1 ((0:Nat),0,0).2.1 0 ((0:Nat),0,0).1 ((0:Nat),0,0).2.2),(10,aD (((0:Nat),0,0).1:Nat))]) (hp:=[.cells (mL s p b (d,ver,c).1) 1 (d,ver,c).2.1,.cells (lB ((dI s p b (d,ver,c).1).take ((0:Nat),0,0).1)) 1 ((0:Nat),0,0).2.1]) 2 rfl ⟨fN.refl _,fN.refl _,fN.refl _,fN.refl _,fN.refl _,fN.zQ,fN.refl _,trivial⟩ (Nat.zero_le _) rfl gu)) ?_
  refine aF.block ?_
  refine aF.loop (fun y:Nat × Nat × Nat=>y.1≤s.needs.length∧(y.2.2=y.1∨y.2.2=y.1+1)) (fun y=>⟨bZ [(1,.sl (p.map av) full),(2,.sl (ints f) ff),(3,.pt (az s) 0),(7,.cQ 0 (d,ver,c).2.1 0 (d,ver,c).1 (d,ver,c).2.2),(8,aD ((d,ver,c).1:Nat)),(9,.cQ 1 y.2.1 0 y.1 y.2.2),(10,aD (y.1:Nat))],[.cells (mL s p b (d,ver,c).1) 1 (d,ver,c).2.1,.cells (lB ((dI s p b (d,ver,c).1).take y.1)) 1 y.2.1],cF.none,false,0⟩) (fun y=>s.needs.length - y.1) ?_ (0,0,0) ⟨Nat.zero_le _,.inl rfl⟩
  rintro ⟨n,ver2,c2⟩ ⟨hn,hcap2⟩
  dsimp only at hn hcap2
  show aF _ _ _ _ ⟨bZ [(1,.sl (p.map av) full),(2,.sl (ints f) ff),(3,.pt (az s) 0),(7,.cQ 0 (d,ver,c).2.1 0 (d,ver,c).1 (d,ver,c).2.2),(8,aD ((d,ver,c).1:Nat)),(9,.cQ 1 (n,ver2,c2).2.1 0 (n,ver2,c2).1 (n,ver2,c2).2.2),(10,aD ((n,ver2,c2).1:Nat))],[.cells (mL s p b (d,ver,c).1) 1 (d,ver,c).2.1,.cells (lB ((dI s p b (d,ver,c).1).take (n,ver2,c2).1)) 1 (n,ver2,c2).2.1],cF.none,false,0⟩ _
  dsimp only
  by_cases hnl:n < s.needs.length
  ·have d2:decide ((n:Int) < ((s.needs.map aG).length:Int))=true:=decide_eq_true (by omega)
   have hnt:(s.needs.map aG)[((n:Nat):Int).toNat]?=some (aG s.needs[n]):=bq hnl
   obtain ⟨hfst,hful⟩:=wA hnl
   have hlv:=oZ (s:=s) (p:=p) (f:=b) (d:=d) hnl
   have htk:=Fe (s:=s) (p:=p) (f:=b) (d:=d) hnl
   have hgl:(lB ((dI s p b d).take n)).length=n:=by rw [List.length_map,List.length_take,eO];omega
   generalize s.needs[n]=g at *
   have hb0:=Kx hg p b n d
   have l4:iP s p b n d=if nY p b n d p.length=true then gm s n else kR s p b n d:=hlv
   refine RM.qk (mu:=fun t=>Nat.beq t 81 || Nat.beq t 85) ?_
   repeat' (first |refine u1 ?_ |refine u2 ?_ |fail)
   refine aF.seq ?_
   refine aF.block ?_
   refine RM.qk (mu:=fun t=>Nat.beq t 81 || Nat.beq t 85) ?_
   repeat' (first |refine u1 ?_ |((with_reducible show RM.wpOp _ _ (.indexAddr _ _ _) _ _ _);refine ⟨aG g,⟨by omega,hnt⟩,rfl,?_⟩) |refine u2 ?_ |fail)
   refine RM.cutAt (st':=⟨bZ [(1,.sl (p.map av) full),(2,.sl (ints f) ff),(3,.pt (az s) 0),(7,.cQ 0 (d,ver,c).2.1 0 (d,ver,c).1 (d,ver,c).2.2),(8,aD ((d,ver,c).1:Nat)),(9,.cQ 1 (n,ver2,c2).2.1 0 (n,ver2,c2).1 (n,ver2,c2).2.2),(10,aD ((n,ver2,c2).1:Nat)),(11,aD (kR s p b n d))],[.cells (mL s p b (d,ver,c).1) 1 (d,ver,c).2.1,.cells (lB ((dI s p b (d,ver,c).1).take (n,ver2,c2).1)) 1 (n,ver2,c2).2.1],cF.none,false,0⟩) ?_ ?_
   ·cases d with
    | zero =>
     have d3:decide ((0:Int) < ((0:Nat):Int))=false:=by decide
     have hbase:kR s p b n 0=g.first:=hfst
     rw [hbase]
     refine ah (mu:=fun t=>Nat.beq t 81 || Nat.beq t 85) ?_
     repeat' (first |refine u1 ?_ |refine u2 ?_ |fail)
     exact .is (ax.to 2 rfl ⟨rfl,rfl,rfl,rfl,rfl,rfl,rfl,rfl,trivial⟩ (Nat.zero_le _) rfl gu)
    | succ d' =>
     have d3:decide ((0:Int) < ((d'+1:Nat):Int))=true:=decide_eq_true (by omega)
     have hat0:(mL s p b (d'+1))[0+(((d'+1:Nat):Int) - 1).toNat * 1]?=some (AV.sl (ints (dI s p b d')) false):=by
      rw [show 0+(((d'+1:Nat):Int) - 1).toNat * 1=d' by omega]
      exact Je (Nat.lt_succ_self _)
     have hlt:(ints (dI s p b d'))[((n:Nat):Int).toNat]?=some (eI (iP s p b n d')):=by
      rw [Int.toNat_natCast,List.getElem?_map]
      unfold dI
      rw [List.getElem?_map,List.getElem?_range hnl]
      rfl
     have hb:=Be hg p b n d'
     have hbase:kR s p b n (d'+1)=max 0 (iP s p b n d' - 1):=rfl
     rw [hbase]
     generalize iP s p b n d'=v at *
     refine ah (mu:=fun t=>Nat.beq t 81 || Nat.beq t 85) ?_
     repeat' (first |((with_reducible show RM.wpOp _ _ (.load _ _) _ _ _);refine RM.KR rfl rfl rfl hat0 ?_) |refine u1 ?_ |((with_reducible show RM.wpOp _ _ (.indexAddr _ _ _) _ _ _);refine ⟨eI v,⟨by omega,hlt⟩,rfl,?_⟩) |refine u2 ?_ |fail)
     exact .is (ax.to 2 rfl ⟨rfl,rfl,rfl,rfl,rfl,rfl,rfl,rfl,trivial⟩ (Nat.zero_le _) rfl gu)
   refine RM.cutAt (st':=⟨bZ [(1,.sl (p.map av) full),(2,.sl (ints f) ff),(3,.pt (az s) 0),(7,.cQ 0 (d,ver,c).2.1 0 (d,ver,c).1 (d,ver,c).2.2),(8,aD ((d,ver,c).1:Nat)),(9,.cQ 1 (n,ver2,c2).2.1 0 (n,ver2,c2).1 (n,ver2,c2).2.2),(10,aD ((n,ver2,c2).1:Nat)),(11,aD (iP s p b n d))],[.cells (mL s p b (d,ver,c).1) 1 (d,ver,c).2.1,.cells (lB ((dI s p b (d,ver,c).1).take (n,ver2,c2).1)) 1 (n,ver2,c2).2.1],cF.none,false,0⟩) ?_ ?_
   ·refine RM.qk (mu:=fun t=>Nat.beq t 81 || Nat.beq t 85) ?_
    repeat' (first |refine u1 ?_ |refine u2 ?_ |fail)
    refine aF.bf (ax.to (l:=[(1,.sl (p.map av) full),(2,.sl (ints f) ff),(3,.pt (az s) 0),(7,.cQ 0 (d,ver,c).2.1 0 (d,ver,c).1 (d,ver,c).2.2),(8,aD ((d,ver,c).1:Nat)),(9,.cQ 1 (n,ver2,c2).2.1 0 (n,ver2,c2).1 (n,ver2,c2).2.2),(10,aD ((n,ver2,c2).1:Nat)),(11,aD (if nY p b (n,ver2,c2).1 (d,ver,c).1 0=true then gm s (n,ver2,c2).1 else kR s p b (n,ver2,c2).1 (d,ver,c).1)),(12,aD (0:Nat))]) (hp:=[.cells (mL s p b (d,ver,c).1) 1 (d,ver,c).2.1,.cells (lB ((dI s p b (d,ver,c).1).take (n,ver2,c2).1)) 1 (n,ver2,c2).2.1]) 2 rfl ⟨rfl,rfl,rfl,rfl,rfl,rfl,rfl,rfl,rfl,trivial⟩ (Nat.zero_le _) rfl gu) ?_
    refine aF.block ?_
    refine aF.loop (fun i:Nat=>i≤p.length) (fun i=>⟨bZ [(1,.sl (p.map av) full),(2,.sl (ints f) ff),(3,.pt (az s) 0),(7,.cQ 0 (d,ver,c).2.1 0 (d,ver,c).1 (d,ver,c).2.2),(8,aD ((d,ver,c).1:Nat)),(9,.cQ 1 (n,ver2,c2).2.1 0 (n,ver2,c2).1 (n,ver2,c2).2.2),(10,aD ((n,ver2,c2).1:Nat)),(11,aD (if nY p b (n,ver2,c2).1 (d,ver,c).1 i=true then gm s (n,ver2,c2).1 else kR s p b (n,ver2,c2).1 (d,ver,c).1)),(12,aD (i:Nat))],[.cells (mL s p b (d,ver,c).1) 1 (d,ver,c).2.1,.cells (lB ((dI s p b (d,ver,c).1).take (n,ver2,c2).1)) 1 (n,ver2,c2).2.1],cF.none,false,0⟩) (fun i=>p.length - i) ?_ 0 (Nat.zero_le _)
    intro i hi
    by_cases hil:i < p.length
    ·have d3:decide ((i:Int) < ((p.map av).length:Int))=true:=decide_eq_true (by omega)
     have hat:(p.map av)[((i:Nat):Int).toNat]?=some (av p[i]):=bq hil
     have hsu:=sN (f:=b) (n:=n) (d:=d) hil
     have hor:=hp.order _ (List.getElem_mem hil)
     generalize p[i]=o at *
     rw [hbit] at hsu
     have o1:=uN one f ff (i:Int) hf
     have o2:=uN one o.aB false (n:Int) (Nat.le_trans hor.len (Nat.le_trans hlen.2 (by simp [maxLen])))
     have keep:∀ {x:Bool},nY p b n d (i+1)=(nY p b n d i || x)→x=false→(if nY p b n d i=true then gm s n else kR s p b n d)=if nY p b n d (i+1)=true then gm s n else kR s p b n d:=fun h1 h2=>by rw [h1,h2,Bool.or_false]
     by_cases q1:o.day=(d:Int)
     ·have e1:=decide_eq_true q1
      cases q2:hasB f (i:Int) with
      | true =>
       rw [q2] at o1 hsu
       have hk:=keep hsu (by simp)
       refine ah (mu:=fun t=>Nat.beq t 81 || Nat.beq t 85) ?_
       repeat' (first |refine u1 ?_ |((with_reducible show RM.wpOp _ _ (.indexAddr _ _ _) _ _ _);refine ⟨av o,⟨by omega,hat⟩,rfl,?_⟩) |((with_reducible show ak _ _ _ _ _ _ _ _);refine af.call o1 rfl rfl ?_) |((with_reducible show ak _ _ _ _ _ _ _ _);refine af.call o2 rfl rfl ?_) |refine u2 ?_ |fail)
       exact ⟨i+1,hil,(by dsimp only;omega),ax.to 2 rfl ⟨rfl,rfl,rfl,rfl,rfl,rfl,rfl,bg hk,bg (by simp),trivial⟩ (Nat.zero_le _) rfl gu⟩
      | false =>
       rw [q2] at o1 hsu
       cases q3:hasB o.aB (n:Int) with
       | false =>
        rw [q3] at o2 hsu
        have hk:=keep hsu (by simp)
        refine ah (mu:=fun t=>Nat.beq t 81 || Nat.beq t 85) ?_
        repeat' (first |refine u1 ?_ |((with_reducible show RM.wpOp _ _ (.indexAddr _ _ _) _ _ _);refine ⟨av o,⟨by omega,hat⟩,rfl,?_⟩) |((with_reducible show ak _ _ _ _ _ _ _ _);refine af.call o1 rfl rfl ?_) |((with_reducible show ak _ _ _ _ _ _ _ _);refine af.call o2 rfl rfl ?_) |refine u2 ?_ |fail)
        exact ⟨i+1,hil,(by dsimp only;omega),ax.to 2 rfl ⟨rfl,rfl,rfl,rfl,rfl,rfl,rfl,bg hk,bg (by simp),trivial⟩ (Nat.zero_le _) rfl gu⟩
       | true =>
        rw [q3,e1] at hsu
        rw [q3] at o2
        have hk:g.full=if nY p b n d (i+1)=true then gm s n else kR s p b n d:=by
         rw [hsu,if_pos (by simp)]
         exact hful.symm
        refine ah (mu:=fun t=>Nat.beq t 81 || Nat.beq t 85) ?_
        repeat' (first |refine u1 ?_ |((with_reducible show RM.wpOp _ _ (.indexAddr _ _ _) _ _ _);refine ⟨av o,⟨by omega,hat⟩,rfl,?_⟩) |((with_reducible show RM.wpOp _ _ (.indexAddr _ _ _) _ _ _);refine ⟨aG g,⟨by omega,hnt⟩,rfl,?_⟩) |((with_reducible show ak _ _ _ _ _ _ _ _);refine af.call o1 rfl rfl ?_) |((with_reducible show ak _ _ _ _ _ _ _ _);refine af.call o2 rfl rfl ?_) |refine u2 ?_ |fail)
        exact ⟨i+1,hil,(by dsimp only;omega),ax.to 2 rfl ⟨rfl,rfl,rfl,rfl,rfl,rfl,rfl,bg hk,bg (by simp),trivial⟩ (Nat.zero_le _) rfl gu⟩
     ·have e1:=decide_eq_false q1
      rw [e1] at hsu
      have hk:=keep hsu (by simp)
      refine ah (mu:=fun t=>Nat.beq t 81 || Nat.beq t 85) ?_
      repeat' (first |refine u1 ?_ |((with_reducible show RM.wpOp _ _ (.indexAddr _ _ _) _ _ _);refine ⟨av o,⟨by omega,hat⟩,rfl,?_⟩) |((with_reducible show ak _ _ _ _ _ _ _ _);refine af.call o1 rfl rfl ?_) |((with_reducible show ak _ _ _ _ _ _ _ _);refine af.call o2 rfl rfl ?_) |refine u2 ?_ |fail)
      exact ⟨i+1,hil,(by dsimp only;omega),ax.to 2 rfl ⟨rfl,rfl,rfl,rfl,rfl,rfl,rfl,bg hk,bg (by simp),trivial⟩ (Nat.zero_le _) rfl gu⟩
    ·have d3:decide ((i:Int) < ((p.map av).length:Int))=false:=decide_eq_false (by omega)
     have hie:i=p.length:=by omega
     subst hie
     rw [←l4]
     refine ah (mu:=fun t=>Nat.beq t 81 || Nat.beq t 85) ?_
     repeat' (first |refine u1 ?_ |refine u2 ?_ |fail)
     exact .is (ax.to 2 rfl ⟨rfl,rfl,rfl,rfl,rfl,rfl,rfl,rfl,trivial⟩ (Nat.zero_le _) rfl gu)
   ·refine ah (mu:=fun t=>Nat.beq t 81 || Nat.beq t 85) ?_
    repeat' (first |((with_reducible show RM.wpOp _ _ (.call _) _ _ _);refine RM.IZ (cs:=lB ((dI s p b d).take n)) (n:=n) (els:=[eI (iP s p b n d)]) rfl rfl rfl rfl rfl (fun el hel=>by rw [List.mem_singleton.1 hel];rfl) rfl rfl (by rw [hgl];exact (Nat.mul_one _).symm) hcap2 (by simp only [List.length_singleton];omega) (fun v' c' hc'=>?_)) |refine u1 ?_ |refine u2 ?_ |fail)
    refine ah (mu:=fun t=>Nat.beq t 81 || Nat.beq t 85) ?_
    repeat' (first |refine u1 ?_ |refine u2 ?_ |fail)
    refine ⟨(n+1,v',c'),⟨hnl,hc'⟩,(by dsimp only;omega),ax.to 2 (by dsimp only;rw [htk];rfl) ⟨rfl,rfl,rfl,rfl,rfl,rfl,bg (by simp),trivial⟩ (Nat.zero_le _) rfl gu⟩
  ·have d2:decide ((n:Int) < ((s.needs.map aG).length:Int))=false:=decide_eq_false (by omega)
   have hne:n=s.needs.length:=by omega
   have hall:(dI s p b d).take n=dI s p b d:=List.take_of_length_le (by rw [eO];omega)
   rw [hall]
   have hll:=eO (s:=s) (p:=p) (f:=b) (d:=d)
   have hgl:(mL s p b d).length=d:=wz
   refine ah (mu:=fun t=>Nat.beq t 81 || Nat.beq t 85) ?_
   repeat' (first |refine u1 ?_ |refine u2 ?_ |fail)
   refine aF.bf (ax.giveUp 1 (l:=[(1,.sl (p.map av) full),(2,.sl (ints f) ff),(3,.pt (az s) 0),(7,.cQ 0 (d,ver,c).2.1 0 (d,ver,c).1 (d,ver,c).2.2),(8,aD ((d,ver,c).1:Nat)),(9,.sl (ints (dI s p b d)) false)]) (hp:=[.cells (mL s p b (d,ver,c).1) 1 (d,ver,c).2.1,.gone]) rfl (Nat.zero_le _) (B4 _) ⟨.same rfl,.same rfl,.same rfl,.same rfl,.same rfl,.row 1 (by rw [List.length_map,hll];omega) (by rw [List.length_map,hll];omega) (fun el hel=>by obtain ⟨x,_,rfl⟩:=List.mem_map.1 hel;rfl) (by rw [uQ,List.drop_zero,List.take_of_length_le (by rw [List.length_map,hll];omega)]) (fun h=>Bool.noConfusion h),trivial⟩ Jf rfl) ?_
   refine ah (mu:=fun t=>Nat.beq t 81 || Nat.beq t 85) ?_
   repeat' (first |((with_reducible show RM.wpOp _ _ (.call _) _ _ _);refine RM.IZ (cs:=mL s p b d) (n:=d) (els:=[[AV.sl (ints (dI s p b d)) false]]) rfl rfl rfl rfl rfl (fun el hel=>by rw [List.mem_singleton.1 hel];rfl) rfl rfl (by rw [hgl];exact (Nat.mul_one _).symm) hcap (by simp only [List.length_singleton];omega) (fun v' c' hc'=>?_)) |refine u1 ?_ |refine u2 ?_ |fail)
   refine ah (mu:=fun t=>Nat.beq t 81 || Nat.beq t 85) ?_
   repeat' (first |refine u1 ?_ |refine u2 ?_ |fail)
   refine ⟨(d+1,v',c'),⟨by dsimp only;omega,hc'⟩,(by dsimp only;omega),ax.to 1 (by dsimp only;rw [Fa];rfl) ⟨rfl,rfl,rfl,rfl,bg (by simp),trivial⟩ (Nat.zero_le _) rfl Bm⟩
 ·have d1:=decide_eq_false hdl
  have hde:d=s.days.toNat:=by omega
  refine ah (mu:=fun t=>Nat.beq t 81 || Nat.beq t 85) ?_
  repeat' (first |refine u1 ?_ |refine u2 ?_ |fail)
  subst hde
  exact ⟨[_],⟨Fz.row (es:=1) rfl (by rw [wz];omega) Bk (fun el hel=>by obtain ⟨x,_,rfl⟩:=List.mem_map.1 hel;rfl) (by rw [Bl,List.drop_zero,List.take_of_length_le (by rw [wz];omega)]) (by rw [Bl];exact Fc) (fun h=>Bool.noConfusion h),trivial⟩,rfl⟩
end Go.Proofs.YtpeogffeoehboaaDoor
