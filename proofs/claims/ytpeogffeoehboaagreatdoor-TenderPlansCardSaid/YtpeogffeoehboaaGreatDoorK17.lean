/-
  Contracts of the program's functions and of the document's. Lemmas alone; their conditions stand in them.
-/
import Derived.Test.YtpeogffeoehboaaGreatDoorK15
import Derived.Test.YtpeogffeoehboaaGreatDoorK16
open Go Go.RM
namespace Go.Proofs.YtpeogffeoehboaaGreatDoor
set_option maxRecDepth 100000
set_option maxHeartbeats 4000000
theorem NL {s:ai} {k known f most:Nat} (hk:known≤k) {F:List Int} (h:F ∈ yG s k known f most):(∀ x ∈ F,0≤x∧x < (k:Nat))∧F.length≤known+most:=by unfold yG Fi at h;obtain ⟨many,hm,h⟩:=List.mem_flatMap.1 h;obtain ⟨l,hl,rfl⟩:=List.mem_map.1 (List.mem_filter.1 h).1;obtain ⟨_,h2,h3,_⟩:=rq (f:=f) hk hl;have:=List.mem_range.1 hm;have:=uf f known;exact ⟨h2,by omega⟩
theorem Mh {s:ai} {k known f most:Nat} (h8:k≤8) (hk:known≤k) (hm:most≤8):(yG s k known f most).length≤150994944:=GM (n:=most+1) h8 hk (by omega)
theorem Mi (one:Bool) {s:ai} {p:List Order} (hp:jC s p) (full:Bool) (came:List Bool) (cf:Bool) {most:Nat} (hm:most≤8) (hN:came.length≤p.length):Pu one 37 [.ag (ay s),.sl (p.map aD) full,.sl (came.map eB) cf,aC (most:Nat)] (BB (cu s p came.length (eo came) (most:Int))):=by
 have hg:=hp.good;have h8:=hp.len;have o1:=DI one hg h8 hm came cf hN;have ep:((p.map aD).length:Int)=p.length:=by simp
 have hset:=HN hg h8 (most:=most) hN (LW came);have hin:=fun F (h:F ∈ yG s p.length came.length (eo came) most)=>NL hN h;have hLl:=Mh (s:=s) (f:=eo came) h8 hN hm;rw [←hset];rw [←ep] at o1;clear hset
 generalize yG s p.length came.length (eo came) most=L at *
 refine aj.body (fn:=Tryz.f37) rfl rfl rfl rfl ?_;refine qq2 ?_;repeat' first|refine RM.Hv rfl rfl rfl rfl ?_|refine u1 ?_|refine u2 ?_|fail
 refine qq2 ?_;repeat' first|((with_reducible refine qq3 ?_);refine aj.call o1 rfl rfl ?_)|refine u1 ?_|refine u2 ?_|fail
 refine av.seq ?_;refine qq2 ?_;repeat' first|refine u1 ?_|refine u2 ?_|fail
 refine av.block ?_;refine av.aJ (ah.to (l:=[(1,.sl (p.map aD) full),(4,.pt (ay s) 0),(9,.sl (L.map eL) false),(10,aC (0:Nat))]) (hp:=[]) 0 rfl ⟨rfl,rfl,rfl,rfl,trivial⟩ (qq5 _) rfl rfl) ?_;refine av.loop (fun i:Nat=>i≤L.length∧∀ (j:Nat) (h:j < L.length),j < i→(jV s p (dc L[j])).isNone=true) (fun i=>⟨aZ [(1,.sl (p.map aD) full),(4,.pt (ay s) 0),(9,.sl (L.map eL) false),(10,aC (i:Nat))],[],bA.none,false,0⟩) (fun i=>L.length - i) ?_ 0 ⟨qq5 _,fun j _ h=>absurd h (Nat.not_lt_zero _)⟩;rintro i ⟨hi,hprev⟩;have eLn:((L.map eL).length:Int)=L.length:=by simp
 by_cases hlt:i < L.length
 ·have d1:decide ((i:Int) < ((L.map eL).length:Int))=true:=decide_eq_true (by omega);have hbi:(i:Int) < ((L.map eL).length:Int):=by omega
  have hat:(L.map eL)[((i:Nat):Int).toNat]?=some (eL L[i]):=bp hlt;obtain ⟨hF,hFl⟩:=hin _ (List.getElem_mem hlt);have ob:=LU true hp full L[i] false (Nat.le_trans (show L[i].length≤24 by omega) (by decide)) hF;unfold nH at ob
  cases hb:jV s p (dc L[i]) with
  | none =>
   rw [hb] at ob;have ob:Pu true 30 [.ag (ay s),.sl (p.map aD) full,.sl (ints L[i]) false] (.tp [aC (-1),aC 0]):=ob;have d2:decide ((0:Int)≤-1)=false:=by decide
   have hnx:∀ (j:Nat) (h:j < L.length),j < i+1→(jV s p (dc L[j])).isNone=true:=fun j h hj=>by
    by_cases e:j < i
    ·exact hprev j h e
    ·obtain rfl:j=i:=by omega
     rw [hb];rfl
   generalize L[i]=F at *
   refine qq2 ?_;repeat' first|refine u1 ?_|refine u2 ?_|fail
   refine qq2 ?_;repeat' first|(refine ⟨_,ob,?_⟩)|refine u1 ?_|((with_reducible refine qq4 ?_);refine ⟨eL F,⟨by omega,hat⟩,rfl,?_⟩)|refine u2 ?_|fail
   refine qq1 ?_;repeat' first|refine u1 ?_|refine u2 ?_|fail
   exact ⟨i+1,⟨hlt,hnx⟩,(by dsimp only;omega),ah.to 0 rfl ⟨rfl,rfl,rfl,bq (by simp),trivial⟩ (qq5 _) rfl rfl⟩
  | some v =>
   obtain ⟨d,n⟩:=v;rw [hb] at ob;have ob:Pu true 30 [.ag (ay s),.sl (p.map aD) full,.sl (ints L[i]) false] (.tp [aC (d:Nat),aC n]):=ob;have d2:decide ((0:Int)≤(d:Int))=true:=decide_eq_true (by omega);have hres:(L.all fun F=>(jV s p (dc F)).isNone)=false:=by rw [List.all_eq_false];exact ⟨L[i],List.getElem_mem hlt,by rw [hb];simp⟩
   rw [hres]
   generalize L[i]=F at *
   refine qq2 ?_;repeat' first|refine u1 ?_|refine u2 ?_|fail
   refine qq1 ?_;repeat' first|(refine ⟨_,ob,?_⟩)|refine u1 ?_|((with_reducible refine qq4 ?_);refine ⟨eL F,⟨by omega,hat⟩,rfl,?_⟩)|refine u2 ?_|fail
   exact ⟨[_],⟨Fz.deep rfl,trivial⟩,rfl⟩
 ·have d1:decide ((i:Int) < ((L.map eL).length:Int))=false:=decide_eq_false (by omega);have hres:(L.all fun F=>(jV s p (dc F)).isNone)=true:=by rw [List.all_eq_true];intro F hF;obtain ⟨j,hj,rfl⟩:=List.mem_iff_getElem.1 hF;exact hprev j hj (by omega)
  rw [hres];refine qq1 ?_;repeat' first|refine u1 ?_|refine u2 ?_|fail
  refine qq1 ?_;repeat' first|refine u1 ?_|refine u2 ?_|fail
  exact ⟨[_],⟨Fz.deep rfl,trivial⟩,rfl⟩
def oz (s:ai):Int:=if (l8 s).2.2=0 then (match gO s s.possible with|none=>9|some _=>0) else (l8 s).2.2
def DJ (s:ai):List Order:=if (l8 s).2.2=0 then (gO s s.possible).getD [] else []
theorem zW:∀ {P:List Order} {n:Nat},(h:n < P.length)→(kj P)[n * 2+1]?=some (.sl (ints P[n].bw) false)
 | o :: P,0,_=>rfl
 | o :: P,n+1,h=>by rw [show (n+1) * 2+1=n * 2+1+1+1 by omega];show (aC o.day :: AV.sl (ints o.bw) false :: kj P)[n * 2+1+1+1]?=_;rw [List.getElem?_cons_succ,List.getElem?_cons_succ,zW (by simpa using h)];rfl
theorem Mj:∀ {P:List Order} {n:Nat},(h:n < P.length)→dy (kj P) [.sl (ints P[n].bw) false] (n * 2+1)=kj P:=by
 intro P n h;rw [Bw h]
 congr 1
 unfold Fu;rw [List.modify_eq_take_cons_drop h]
 conv=>rhs;rw [←List.take_append_drop n P,List.drop_eq_getElem_cons h]
theorem DK (one:Bool) (s:ai) (hs:s.Ok):Pu one 15 [.ag (ay s)] (.tp [.sl ((DJ s).map aD) false,aC (oz s)]):=by
 have o1:=Nf one s hs;unfold DJ oz;by_cases c1:(l8 s).2.2=0
 ·rw [C9 c1] at o1;rw [if_pos c1,if_pos c1];have hg:=qX c1;have hm:=hg.many;obtain ⟨p1,p2⟩:=sP hg;have hdp:s.possible.Pairwise (· < ·):=List.pairwise_iff_getElem.2 fun i j hi hj hij=>p2 i j hi hj hij;have hdr:∀ x ∈ s.possible,0≤x∧x < s.days:=fun x hx=>by obtain ⟨i,hi,rfl⟩:=List.mem_iff_getElem.1 hx;exact p1 i hi
  have hfc:=fun (aE:bA) (Q:AV→List AB→bA→Prop) (hQ:Q (TA (gO s s.possible)) (TC (gO s s.possible)) aE)=>Pe one hg (days:=s.possible) false hm hdp hdr (aE:=aE) (Q:=Q) hQ;have hsm:=fun p (h:gO s s.possible=some p)=>DF c1 h;clear hdp hdr p1 p2
  cases hf:gO s s.possible with
  | none =>
   rw [hf] at hfc;clear hsm;refine aj.body (fn:=Tryz.f15) rfl rfl rfl rfl ?_;refine qq1 ?_;repeat' first|((with_reducible refine qq3 ?_);refine aj.call o1 rfl rfl ?_)|(refine hfc _ _ ?_)|refine u1 ?_|refine u2 ?_|fail
   exact ⟨[_,_],⟨Fz.nil,Fz.deep rfl,trivial⟩,rfl⟩
  | some p =>
   obtain ⟨hz,_,_,_⟩:=hsm p hf;have hpg:=Dc hz;clear hsm hz;rw [hf] at hfc
   cases p with
   | nil =>
    have hfc:∀ (aE:bA) (Q:AV→List AB→bA→Prop),Q (.tp [.fl (.slice none 0 0),BB true]) [] aE→az TT TB one (.fn 44 [] []) [.ag (ay s),.sl (ints s.possible) false] [] aE Q:=hfc;refine aj.body (fn:=Tryz.f15) rfl rfl rfl rfl ?_;refine qq2 ?_;repeat' first|refine u1 ?_|refine u2 ?_|fail
    refine qq2 ?_;repeat' first|((with_reducible refine qq3 ?_);refine aj.call o1 rfl rfl ?_)|(refine hfc _ _ ?_)|refine u1 ?_|refine u2 ?_|fail
    refine qq2 ?_;repeat' first|(refine hfc _ _ ?_)|refine u1 ?_|refine u2 ?_|fail
    refine qq2 ?_;repeat' first|refine u1 ?_|refine u2 ?_|fail
    refine av.aJ (ah.Gi (l:=[(7,.sl [] false)]) (hp:=[]) 0 rfl ⟨aW.nil false,trivial⟩ (qq5 _) rfl rfl) ?_;refine av.seq ?_;refine qq2 ?_;repeat' first|refine u1 ?_|refine u2 ?_|fail
    refine av.block ?_;refine av.aJ (ah.to (l:=[(7,.sl [] false),(30,aC 0),(31,aC 0)]) (hp:=[]) 0 rfl ⟨rfl,rfl,rfl,trivial⟩ (qq5 _) rfl rfl) ?_;refine av.loop (fun _:Unit=>True) (fun _=>⟨aZ [(7,.sl [] false),(30,aC 0),(31,aC 0)],[],bA.none,false,0⟩) (fun _=>0) ?_ () trivial;intro _ _;refine qq1 ?_;repeat' first|refine u1 ?_|refine u2 ?_|fail
    refine qq1 ?_;repeat' first|refine u1 ?_|refine u2 ?_|fail
    exact ⟨[_,_],⟨Fz.deep rfl,Fz.deep rfl,trivial⟩,rfl⟩
   | cons a l =>
    have hfc:∀ (aE:bA) (Q:AV→List AB→bA→Prop),Q (.tp [.bg 0 0 0 (a :: l).length ((a :: l).length+1),BB true]) [fL (a :: l) 0] aE→az TT TB one (.fn 44 [] []) [.ag (ay s),.sl (ints s.possible) false] [] aE Q:=hfc;refine aj.body (fn:=Tryz.f15) rfl rfl rfl rfl ?_;refine qq2 ?_;repeat' first|refine u1 ?_|refine u2 ?_|fail
    refine qq2 ?_;repeat' first|((with_reducible refine qq3 ?_);refine aj.call o1 rfl rfl ?_)|(refine hfc _ _ ?_)|refine u1 ?_|refine u2 ?_|fail
    refine qq2 ?_;repeat' first|(refine hfc _ _ ?_)|refine u1 ?_|refine u2 ?_|fail
    refine qq2 ?_;repeat' first|refine u1 ?_|refine u2 ?_|fail
    refine av.seq ?_;refine qq2 ?_;repeat' first|refine u1 ?_|refine u2 ?_|fail
    refine av.block ?_;refine av.aJ (ah.to (l:=[(7,.bg 0 0 0 (a :: l).length ((a :: l).length+1)),(30,aC ((a :: l).length:Nat)),(31,aC (0:Nat))]) (hp:=[fL (a :: l) 0]) 1 rfl ⟨rfl,rfl,rfl,trivial⟩ (qq5 _) rfl (xj _ _)) ?_;revert hpg;generalize a :: l=P;intro hpg;have hlen:=hpg.len;have hgl:=hpg.good.len;refine av.loop (fun k:Nat=>k≤P.length) (fun k=>⟨aZ [(7,.bg 0 0 0 P.length (P.length+1)),(30,aC (P.length:Nat)),(31,aC (k:Nat))],[fL P 0],bA.none,false,0⟩) (fun k=>P.length - k) ?_ 0 (qq5 _);intro k hk;by_cases hlt:k < P.length
    ·have d1:decide ((k:Int) < (P.length:Int))=true:=decide_eq_true (by omega);have hat:=zW hlt;have hsame:=Mj hlt;have hok:=hpg.order _ (List.getElem_mem hlt);have hc1:=hok.some;have hc3:=hok.len;clear hok
     generalize P[k].bw=c at *
     have hat':(kj P)[0+((k:Nat):Int).toNat * 2+1]?=some (.sl (ints c) false):=by rw [Int.toNat_natCast,Nat.zero_add];exact hat
     have hset':dy (kj P) [.sl (ints c) false] (0+((k:Nat):Int).toNat * 2+1)=kj P:=by rw [Int.toNat_natCast,Nat.zero_add];exact hsame
     have hsb:Nat.ble (0+((k:Nat):Int).toNat * 2+1+1) (kj P).length=true:=Nat.ble_eq_true_of_le (by rw [lO,Int.toNat_natCast];omega);have oc:=Nq one c false (fun h=>by rw [h] at hc1;simp at hc1) (by omega);refine qq1 ?_;repeat' first|((with_reducible show RM.wpOp _ _ (.load _ _) _ _ _);refine RM.MA rfl rfl rfl hat' ?_)|((with_reducible refine qq3 ?_);refine aj.call oc rfl rfl ?_)|((with_reducible show di _ _ _ _ _ _);refine RM.O5 rfl rfl rfl rfl rfl rfl hsb ?_)|refine u1 ?_|refine u2 ?_|fail
     refine ⟨k+1,hlt,(by dsimp only;omega),ah.to 1 (by show [AB.cells (dy (kj P) [.sl (ints c) false] (0+((k:Nat):Int).toNat * 2+1)) 2 0]=[AB.cells (kj P) 2 0];rw [hset']) ⟨rfl,rfl,bq (by simp),trivial⟩ (qq5 _) rfl (xj _ _)⟩
    ·have d1:decide ((k:Int) < (P.length:Int))=false:=decide_eq_false (by omega);refine qq1 ?_;repeat' first|refine u1 ?_|refine u2 ?_|fail
     refine qq1 ?_;repeat' first|refine u1 ?_|refine u2 ?_|fail
     exact ⟨[_,_],⟨Fz.row (es:=2) rfl (jX _).1 (jX _).2.1 (jX _).2.2.1 (jX _).2.2.2 (mJ _) (fun h=>Bool.noConfusion h),Fz.deep rfl,trivial⟩,rfl⟩
 ·rw [if_neg c1,if_neg c1];refine aj.body (fn:=Tryz.f15) rfl rfl rfl rfl ?_;have d1:(!decide ((l8 s).2.2=0))=true:=by rw [decide_eq_false c1];rfl
  refine qq1 ?_;repeat' first|refine u1 ?_|((with_reducible refine qq3 ?_);refine aj.call o1 rfl rfl ?_)|refine u2 ?_|fail
  exact ⟨[_,_],⟨Fz.nil,Fz.deep rfl,trivial⟩,rfl⟩
def Mo (s:ai) (days:List Int) (b:List Order):List Order:=match bl s (days.drop b.length) b with
 | some p=>p
 | none=>if days.length=b.length then b else []
def iu (s:ai):List (List Int):=(aI s).map aL
theorem Mp (s:ai):(iu s).length≤7:=by unfold iu aI;rw [List.length_map];exact List.length_filter_le _ _
theorem nS {α β:Type} {f:α→Option β} {q:β}:∀ {l:List α} {i:Nat} (h:i < l.length),(∀ (j:Nat) (hj:j < l.length),j < i→f l[j]=none)→f l[i]=some q→l.findSome? f=some q
 | a :: l,0,_,_,h1=>by rw [List.findSome?_cons];have h1:f a=some q:=h1;rw [h1]
 | a :: l,i+1,h,h0,h1=>by have ha:f a=none:=h0 0 (Nat.succ_pos _) (Nat.succ_pos _);rw [List.findSome?_cons,ha];exact nS (by simpa using h) (fun j hj hji=>h0 (j+1) (by simpa using hj) (by omega)) h1
theorem Rc (b:List Order) (o:Order):cC (([]:List AV)++(b.map aD).flatten++[aD o].flatten)=true∧0+(0+(b.map aD).length+[aD o].length) * 2≤(([]:List AV)++(b.map aD).flatten++[aD o].flatten).length∧((b++[o]).map aD).length=0+(b.map aD).length+[aD o].length ∧
  (∀ el ∈ (b++[o]).map aD,el.length=2)∧((b++[o]).map aD).flatten=((([]:List AV)++(b.map aD).flatten++[aD o].flatten).drop 0).take ((0+(b.map aD).length+[aD o].length) * 2):=by
 have e:(([]:List AV)++(b.map aD).flatten++[aD o].flatten)=kj (b++[o]):=by rw [List.nil_append,xF];rfl
 have en:0+(b.map aD).length+[aD o].length=(b++[o]).length:=by simp
 rw [e,en];have h:=jX (b++[o]);exact ⟨mJ _,h.1,h.2.1,h.2.2.1,h.2.2.2⟩
theorem Mq (one:Bool) {s:ai} (hg:Good s) {days:List Int} (h6:days.length≤6) (hdp:days.Pairwise (· < ·)) (hdr:∀ x ∈ days,0≤x∧x < s.days):∀ (k:Nat) (b:List Order),b.length+k=days.length→jC s b→b.map (·.day)=days.take b.length →
  Pu one 74 [.ag (ay s),.sl (ints days) false,.sl (b.map aD) false,.sl ((iu s).map eL) false] (.tp [.sl ((Mo s days b).map aD) false,BB (bl s (days.drop b.length) b).isSome]):=by
 intro k
 induction k generalizing one with
 | zero =>
  intro b hk hb hbd;have hdrop:days.drop b.length=[]:=List.drop_eq_nil_of_le (by omega)
  have hlp:Mo s days b=b:=by
   unfold Mo;rw [hdrop,bl];by_cases h:cu s b 0 0 s.fail=true
   ·rw [if_pos h]
   ·rw [if_neg h,if_pos (by omega)]
  have hls:(bl s (days.drop b.length) b).isSome=cu s b 0 0 s.fail:=by
   rw [hdrop,bl]
   cases h:cu s b 0 0 s.fail with
   | true=>rw [if_pos rfl];rfl
   | false=>rw [if_neg (by simp)];rfl
  rw [hlp,hls];have hf:=hg.fail;have e1:((min s.fail.toNat b.length:Nat):Int)=min s.fail ((b.map aD).length:Int):=by rw [List.length_map];omega
  have oh:Pu one 37 [.ag (ay s),.sl (b.map aD) false,.sl [] false,aC ((min s.fail.toNat b.length:Nat):Int)] (BB (cu s b 0 0 ((min s.fail.toNat b.length:Nat):Int))):=Mi one hb false [] false (most:=min s.fail.toNat b.length) (by omega) (qq5 _);rw [H7 hg,e1] at oh;have d1:decide (((b.map aD).length:Int)=((ints days).length:Int))=true:=decide_eq_true (by rw [List.length_map,List.length_map];omega);refine aj.body (fn:=Tryz.f74) rfl rfl rfl rfl ?_;refine qq1 ?_;repeat' first|refine RM.Hv rfl rfl rfl rfl ?_|(refine az.soft (cm.cons (aW.refl _) (cm.cons (aW.refl _) (cm.cons (aW.nil false) (cm.tO (aW.refl _))))) (aj.call oh rfl rfl ?_))|refine u1 ?_|refine u2 ?_|fail
  exact ⟨[_,_],⟨Fz.deep rfl,Fz.deep rfl,trivial⟩,rfl⟩
 | succ k ih =>
  intro b hk hb hbd;have hlt:b.length < days.length:=by omega
  have hdrop:=List.drop_eq_getElem_cons hlt;have d1:decide (((b.map aD).length:Int)=((ints days).length:Int))=false:=decide_eq_false (by rw [List.length_map,List.length_map];omega);have hcl:=Mp s;have eC:(((iu s).map eL).length:Int)=(iu s).length:=by simp
  have ebl:((b.map aD).length:Int)=b.length:=by simp
  have edl:((ints days).length:Int)=days.length:=by simp
  have hb6:b.length≤6:=by omega
  have hatd:(ints days)[((b.map aD).length:Int).toNat]?=some (eI days[b.length]):=by rw [ebl];exact bp hlt
  have hbd1:((b.map aD).length:Int) < ((ints days).length:Int):=by omega
  have hdd:=hdr _ (List.getElem_mem hlt);have htk:days.take (b.length+1)=days.take b.length++[days[b.length]]:=by rw [List.take_add_one,List.getElem?_eq_getElem hlt];rfl
  have hlast:∀ x ∈ b,x.day < days[b.length]:=fun x hx=>by
   have:x.day ∈ days.take b.length:=by rw [←hbd];exact List.mem_map.2 ⟨x,hx,rfl⟩
   obtain ⟨j,hj,e⟩:=List.mem_iff_getElem.1 this;rw [List.getElem_take] at e;rw [←e];rw [List.length_take] at hj;exact List.pairwise_iff_getElem.1 hdp j b.length (by omega) hlt (by omega)
  generalize hd:days[b.length]=d at *
  have hldF:bl s (days.drop b.length) b=(aI s).findSome? (fun f=>bl s (days.drop (b.length+1)) (b++[⟨d,aL f⟩])):=by rw [hdrop,bl]
  have hP0:bl s (days.drop b.length) b=none→Mo s days b=[]:=fun h=>by unfold Mo;rw [h];exact if_neg (by omega)
  refine aj.body (fn:=Tryz.f74) rfl rfl rfl rfl ?_;refine qq2 ?_;repeat' first|refine RM.Hv rfl rfl rfl rfl ?_|refine u1 ?_|refine u2 ?_|fail
  refine qq2 ?_;repeat' first|refine u1 ?_|refine u2 ?_|fail
  refine av.seq ?_;refine qq2 ?_;repeat' first|refine u1 ?_|refine u2 ?_|fail
  refine av.block ?_;refine av.aJ (ah.to (l:=[(1,.sl (ints days) false),(2,.sl (b.map aD) false),(3,.sl ((iu s).map eL) false),(4,.pt (ay s) 0),(10,aC (0:Nat))]) (hp:=[]) 0 rfl ⟨rfl,rfl,rfl,rfl,rfl,trivial⟩ (qq5 _) rfl rfl) ?_;refine av.loop (fun i:Nat=>i≤(iu s).length∧∀ (j:Nat) (h:j < (aI s).length),j < i→bl s (days.drop (b.length+1)) (b++[⟨d,aL (aI s)[j]⟩])=none) (fun i=>⟨aZ [(1,.sl (ints days) false),(2,.sl (b.map aD) false),(3,.sl ((iu s).map eL) false),(4,.pt (ay s) 0),(10,aC (i:Nat))],[],bA.none,false,0⟩) (fun i=>(iu s).length - i) ?_ 0 ⟨qq5 _,fun j _ h=>absurd h (Nat.not_lt_zero _)⟩;rintro i ⟨hi,hprev⟩;have hcc:(iu s).length=(aI s).length:=List.length_map _;by_cases hlc:i < (iu s).length
  ·have d2:decide ((i:Int) < (((iu s).map eL).length:Int))=true:=decide_eq_true (by omega);have hbi:(i:Int) < (((iu s).map eL).length:Int):=by omega
   have hlf:i < (aI s).length:=by omega
   have hat:((iu s).map eL)[((i:Nat):Int).toNat]?=some (eL (aL (aI s)[i])):=by rw [Int.toNat_natCast,List.getElem?_map];unfold iu;rw [List.getElem?_map,List.getElem?_eq_getElem hlf];rfl
   have hok:=xD hg (List.getElem_mem hlf) hdd;have hbn:jC s (b++[⟨d,aL (aI s)[i]⟩]):=xE hb (by omega) hok hlast;have hln:(b++[(⟨d,aL (aI s)[i]⟩:Order)]).length=b.length+1:=by rw [List.length_append];rfl
   have oc:=ih true (b++[⟨d,aL (aI s)[i]⟩]) (by rw [hln];omega) hbn (by rw [hln,htk,List.map_append,hbd];rfl);rw [hln] at oc;have ri:=Rc b ⟨d,aL (aI s)[i]⟩;have hq1:(([]:List AV)++(b.map aD).flatten).length=(0+(b.map aD).length) * 2:=by rw [List.nil_append,List.length_map];have:=lO b;rw [Nat.zero_add];exact this
   have hq2:(0+(b.map aD).length+([aD ⟨d,aL (aI s)[i]⟩]:List (List AV)).length) * 32≤140737488355328∧0+(b.map aD).length+([aD ⟨d,aL (aI s)[i]⟩]:List (List AV)).length≤9223372036854775807:=by simp only [List.length_singleton];omega
   have hcar:=qi (aI s)[i]
   generalize hfi:(aI s)[i]=f at *
   refine qq2 ?_;repeat' first|refine u1 ?_|refine u2 ?_|fail
   refine av.seq ?_;refine av.block ?_;refine av.seq ?_;refine av.SY (mu:=fun t=>Nat.beq t 36) (n:=24) (A:=[_,_,_,_,_,_,_,_,_,_,_,_,_,_,_,_,_,_]) (B:=[_,_,_,_,_]) (by kernel_rfl) rfl rfl rfl rfl ?_;repeat' first|refine RM.TI ?_|refine RM.TH ?_|((with_reducible show RM.wpOp _ _ (.call _) _ _ _);refine RM.l5 (cs:=[]) (n:=0) (c:=0) (els:=b.map aD) rfl rfl rfl rfl rfl (fun el hel=>by obtain ⟨x,_,rfl⟩:=List.mem_map.1 hel;rfl) (Bz b) rfl rfl (.inl rfl) (by exact ⟨by show (0+(b.map aD).length) * 32≤_;omega,by omega⟩) (fun v1 c1 hc1=>?_))|((with_reducible show RM.wpOp _ _ (.call _) _ _ _);refine RM.l5 (cs:=[]++(b.map aD).flatten) (n:=0+(b.map aD).length) (els:=[aD ⟨d,aL f⟩]) rfl rfl rfl rfl rfl (fun el hel=>by rw [List.mem_singleton.1 hel];rfl) rfl rfl hq1 hc1 hq2 (fun v9 c9 hc9=>?_))|refine u1 ?_|((with_reducible refine qq4 ?_);refine ⟨eL (aL f),⟨by omega,hat⟩,rfl,?_⟩)|((with_reducible refine qq4 ?_);refine ⟨eI d,⟨by omega,hatd⟩,rfl,?_⟩)|refine u2 ?_|fail
   refine ⟨_,ah.giveUp 0 (l:=[(1,.sl (ints days) false),(2,.sl (b.map aD) false),(3,.sl ((iu s).map eL) false),(4,.pt (ay s) 0),(10,aC (i:Nat)),(34,.ag (ay s)),(35,.sl (ints days) false),(50,.sl ((b++[(⟨d,aL f⟩:Order)]).map aD) false),(51,.sl ((iu s).map eL) false)]) (hp:=[.gone]) rfl (qq5 _) ri.1 ⟨.same rfl,.same rfl,.same rfl,.same rfl,.same rfl,.same rfl,.same rfl,.row 2 ri.2.1 ri.2.2.1 ri.2.2.2.1 ri.2.2.2.2 (fun h=>Bool.noConfusion h),.same rfl,trivial⟩ rfl rfl,_,_,_,rfl,rfl,rfl,oc,?_⟩;repeat' first|refine u1 ?_|refine u2 ?_|fail
   cases hL:bl s (days.drop (b.length+1)) (b++[⟨d,aL f⟩]) with
   | some q =>
    have hq:bl s (days.drop b.length) b=some q:=by rw [hldF];exact nS hlf (fun j h hj=>hprev j h hj) (by rw [hfi];exact hL)
    have e1:Mo s days (b++[⟨d,aL f⟩])=q:=by unfold Mo;rw [hln,hL]
    have e2:Mo s days b=q:=by unfold Mo;rw [hq]
    rw [e1,e2,hq];refine qq1 ?_;repeat' first|refine u1 ?_|refine u2 ?_|fail
    exact ⟨[_,_],⟨Fz.deep rfl,Fz.deep rfl,trivial⟩,rfl⟩
   | none =>
    have hnx:∀ (j:Nat) (h:j < (aI s).length),j < i+1→bl s (days.drop (b.length+1)) (b++[⟨d,aL (aI s)[j]⟩])=none:=fun j h hj=>by
     by_cases e:j < i
     ·exact hprev j h e
     ·obtain rfl:j=i:=by omega
      rw [hfi];exact hL
    refine qq1 ?_;repeat' first|refine u1 ?_|refine u2 ?_|fail
    refine qq1 ?_;repeat' first|refine u1 ?_|refine u2 ?_|fail
    exact ⟨i+1,⟨hlc,hnx⟩,(by dsimp only;omega),ah.to 0 rfl ⟨rfl,rfl,rfl,rfl,bq (by simp),trivial⟩ (qq5 _) rfl rfl⟩
  ·have d2:decide ((i:Int) < (((iu s).map eL).length:Int))=false:=decide_eq_false (by omega);have hq:bl s (days.drop b.length) b=none:=by rw [hldF,List.findSome?_eq_none_iff];intro f hf;obtain ⟨j,hj,rfl⟩:=List.mem_iff_getElem.1 hf;exact hprev j hj (by omega)
   rw [hP0 hq,hq];refine qq1 ?_;repeat' first|refine u1 ?_|refine u2 ?_|fail
   refine qq1 ?_;repeat' first|refine u1 ?_|refine u2 ?_|fail
   exact ⟨[_,_],⟨Fz.nil,Fz.deep rfl,trivial⟩,rfl⟩
