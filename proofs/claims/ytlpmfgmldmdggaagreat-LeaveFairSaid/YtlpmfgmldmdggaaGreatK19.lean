/-
  Contracts of the program's functions and of the document's. Lemmas alone; their conditions stand in them.
-/
import Derived.Test.YtlpmfgmldmdggaaGreatK18
open Go Go.RM
namespace Go.Proofs.YtlpmfgmldmdggaaGreat
set_option maxRecDepth 100000
set_option maxHeartbeats 4000000
abbrev I5 (c:aP) (p:bW) (S:List Nat) (u:Value):List AV:=[.ptr 1 0 0,.pt (gM c p) 0,.pt [.oq u] 0,.pt [.sl (ints (nI S)) false] 0,.ptr 2 0 0]
abbrev ud (c:aP) (p:bW) (S:List Nat) (u:Value) (tn:Nat) (W:List Int) (m:Nat):List AB:=[.cells (av W) 1 0,.cells [.aL 0 0 0 m (tn+3)] 0 0,.cells [.fn 115 [] (I5 c p S u)] 0 0]
theorem M0 (W:List Int):(av W).all Mr=true:=by rw [List.all_map,List.all_eq_true];intro x _;rfl
theorem uE (c:aP) (p:bW) (S:List Nat) (u:Value) (tn:Nat) (W:List Int) (m:Nat):(ud c p S u tn W m).all (AB.gZ 3)=true:=by have h1:AB.gZ 3 (.cells (av W) 1 0)=true:=eC 3 (fun _=>rfl) _;simp only [List.all_cons,List.all_nil,h1,Bool.true_and];rfl
theorem Kw {c:aP} {p:bW} {S:List Nat} {u:Value} {tn:Nat} {W:List Int} {m:Nat} {l:List Nat} (hW:W.length=tn) (hm:m≤tn) (hl:W.take m=nI l):Mt (ud c p S u tn W m) [.aL 0 0 0 m (tn+3)] [.sl (ints (nI l)) false]:=by
 have hll:l.length=m:=by have:=congrArg List.length hl;rw [List.length_take,List.length_map] at this;omega
 refine ⟨rfl,fun i a x h1 h2=>?_⟩
 cases i with
 | zero =>cases h1;cases h2;refine Ld.row (es:=1) (cs:=av W) rfl (by rw [List.length_map];omega) (by rw [List.length_map,List.length_map];exact hll) (fun el hel=>by obtain ⟨x,_,rfl⟩:=List.mem_map.1 hel;rfl) ?_ (M0 W);rw [List.drop_zero,Nat.mul_one,←hl,dJ];exact List.map_take
 | succ i=>cases h1
def nS (S:List Nat) (k:Nat) (pre:List Nat) (q:Nat):List (List Nat):=(S.take q).flatMap fun s=>if dY pre &&& s=0 then jo S k (pre++[s]) else []
theorem EE {S:List Nat} {q:Nat} (h:q < S.length) (k:Nat) (pre:List Nat):nS S k pre (q+1)=nS S k pre q++if dY pre &&& S[q]=0 then jo S k (pre++[S[q]]) else []:=by unfold nS;rw [List.take_add_one,List.getElem?_eq_getElem h,List.flatMap_append];show _++List.flatMap _ [S[q]]=_;rw [List.flatMap_cons,List.flatMap_nil,List.append_nil]
theorem Hh (S:List Nat) (k:Nat) (pre:List Nat):nS S k pre S.length=jo S (k+1) pre:=by unfold nS;rw [List.take_length];rfl
theorem BL {S:List Nat} (k:Nat) (pre:List Nat) (q:Nat):∃ R,jo S (k+1) pre=nS S k pre q++R:=by refine ⟨(S.drop q).flatMap fun s=>if dY pre &&& s=0 then jo S k (pre++[s]) else [],?_⟩;unfold nS;rw [←List.flatMap_append,List.take_append_drop];rfl
theorem take_set {W:List Int} {m:Nat} {l:List Nat} (hm:m < W.length) (hl:W.take m=nI l) (s:Nat):(W.set m (s:Int)).take (m+1)=nI (l++[s]):=by rw [List.take_add_one,List.getElem?_set_self hm,List.take_set_of_le (qq6 _),hl];unfold nI;rw [List.map_append];rfl
theorem yf {W:List Int} {m:Nat} {l:List Nat} {s:Nat} (h:W.take (m+1)=nI (l++[s])) (hl:l.length=m):W.take m=nI l:=by have h2:=congrArg (List.take m) h;rw [List.take_take,Nat.min_eq_left (by omega)] at h2;rw [h2];unfold nI;rw [List.map_append,List.take_left' (by rw [List.length_map];exact hl)]
theorem I6 {W:List Int} {m:Nat} {l:List Nat} (h:W.take (m+1)=nI l) (hl:l.length=m+1):W[m]?=some ((dY l:Nat):Int):=by
 have h1:(W.take (m+1))[m]?=W[m]?:=by rw [List.getElem?_take];exact if_pos (Nat.lt_succ_self m)
 rw [←h1,h];unfold nI dY;rw [List.getElem?_map,List.getLastD_eq_getLast?,List.getLast?_eq_getElem?,hl,Nat.add_sub_cancel]
 cases hh:l[m]? with
 | none=>have:=List.getElem?_eq_none_iff.1 hh;omega
 | some x=>rfl
theorem CP (one:Bool) (c:aP) {p:bW} {tn:Nat} (htn:p.turns=(tn:Int)) (h4:tn≤4) {S:List Nat} (hS:lW S) (h16:S.length≤16) (u:Value) (J:Nat→bJ) (Stop:bJ→Prop) (xs:List (List Nat))
  (hy:∀ (i:Nat) (x:List AV),(xs.map fun t=>[AV.sl (ints (nI t)) false])[i]?=some x→zy TT TB one u x (J i) (Ct (J (i+1)) Stop)) :
  ∀ (k m i:Nat) (pre:List Nat) (W:List Int),m+k=tn→pre.length=m→W.length=tn→W.take m=nI pre→lW pre→(∀ j x,(jo S k pre)[j]?=some x→xs[i+j]?=some x) →
   au TT TB one (.fn 115 [] (I5 c p S u)) [] (ud c p S u tn W m) (J i)
    fun v hp' a'=>(∃ W',W'.length=tn∧W'.take m=nI pre∧hp'=ud c p S u tn W' m)∧∃ b,v=BB b∧Ct (J (i+(jo S k pre).length)) Stop b a'
 | 0,m,i,pre,W,hk,hm,hW,hT,hp,hat=>by
  have d1:decide ((m:Int)=p.turns)=true:=decide_eq_true (by omega);have hx:(xs.map fun t=>[AV.sl (ints (nI t)) false])[i]?=some [.sl (ints (nI pre)) false]:=by have:=hat 0 pre rfl;rw [Nat.add_zero] at this;rw [List.getElem?_map,this];rfl
  have hyx:=hy i _ hx;refine au.body (fn:=Tryz.f115) rfl rfl rfl ?_;refine qq1 ?_;repeat' first|refine u1 ?_|refine u2 ?_|fail
  refine au.mono (hyx _ _ (Kw hW (by omega) hT)) (fun a hp' amb' hq=>?_);obtain ⟨rfl,b,rfl,hb⟩:=hq;repeat' first|refine u1 ?_|refine u2 ?_|fail
  exact ⟨⟨W,hW,hT,rfl⟩,b,rfl,hb⟩
 | k+1,m,i,pre,W,hk,hm,hW,hT,hp,hat=>by
  have d1:decide ((m:Int)=p.turns)=false:=decide_eq_false (by omega);have eS:((ints (nI S)).length:Int)=S.length:=by simp
  refine au.body (fn:=Tryz.f115) rfl rfl rfl ?_;refine qq1 ?_;repeat' first|refine u1 ?_|refine u2 ?_|fail
  refine ay.aN (ak.to (l:=[(0,.ptr 1 0 0),(1,.pt (gM c p) 0),(2,.pt [.oq u] 0),(3,.pt [(.sl (ints (nI S)) false)] 0),(4,.ptr 2 0 0),(5,BB false),(18,(.sl (ints (nI S)) false)),(19,af (S.length:Nat)),(20,af (0:Nat))]) (hp:=ud c p S u tn W m) 3 rfl ⟨rfl,rfl,rfl,rfl,rfl,rfl,rfl,aH eS,rfl,trivial⟩ (qq6 _) rfl (uE c p S u tn W m)) ?_;refine ay.loop (fun x:Nat × List Int=>x.1≤S.length∧x.2.length=tn∧x.2.take m=nI pre) (fun x=>⟨aT [(0,.ptr 1 0 0),(1,.pt (gM c p) 0),(2,.pt [.oq u] 0),(3,.pt [(.sl (ints (nI S)) false)] 0),(4,.ptr 2 0 0),(5,BB false),(18,(.sl (ints (nI S)) false)),(19,af (S.length:Nat)),(20,af (x.1:Nat))],ud c p S u tn x.2 m,J (i+(nS S k pre x.1).length),false,3⟩) (fun x=>S.length - x.1) ?_ (0,W) ⟨qq5 _,hW,hT⟩;rintro ⟨q,W⟩ ⟨hq,hW,hT⟩;dsimp only at hq hW hT;show ay _ _ _ _ ⟨aT [(0,.ptr 1 0 0),(1,.pt (gM c p) 0),(2,.pt [.oq u] 0),(3,.pt [(.sl (ints (nI S)) false)] 0),(4,.ptr 2 0 0),(5,BB false),(18,(.sl (ints (nI S)) false)),(19,af (S.length:Nat)),(20,af (q:Nat))],ud c p S u tn W m,J (i+(nS S k pre q).length),false,3⟩ _;by_cases hqs:q < S.length
  ·have d2:decide ((q:Int) < (S.length:Int))=true:=decide_eq_true (by omega);have hcs:=EE hqs k pre;have hatS:(ints (nI S))[((q:Nat):Int).toNat]?=some (eI ((S[q]:Nat):Int)):=by rw [dm (by rw [List.length_map];exact hqs),List.getElem_map]
   have hs32:=hS _ (List.getElem_mem hqs)
   generalize S[q]=s at *
   by_cases hm0:m=0
   ·have d3:decide ((0:Int) < (m:Int))=false:=decide_eq_false (by omega);have hpe:pre=[]:=List.length_eq_zero_iff.1 (by omega);have hz:dY pre &&& s=0:=by rw [hpe];exact Nat.zero_and s
    rw [if_pos hz] at hcs;have hsp:bg (av W) [af (s:Nat)] (0+m * 1)=av (W.set m (s:Int)):=lU (k:=m) (by omega) _;have hat1:∀ j x,(jo S k (pre++[s]))[j]?=some x→xs[i+(nS S k pre q).length+j]?=some x:=fun j x hj=>by obtain ⟨R,hR⟩:=BL (S:=S) k pre (q+1);rw [Nat.add_assoc];refine hat _ x ?_;rw [hR,hcs,List.append_assoc,List.getElem?_append_right (Nat.le_add_right _ _),Nat.add_sub_cancel_left,List.getElem?_append_left (List.getElem?_eq_some_iff.1 hj).1];exact hj
    have c1:=CP one c htn h4 hS h16 u J Stop xs hy k (m+1) (i+(nS S k pre q).length) (pre++[s]) (W.set m (s:Int)) (by omega) (by rw [List.length_append,hm];rfl) (by rw [List.length_set];exact hW) (take_set (by omega) hT s) (hp.snoc hs32) hat1;rw [show ud c p S u tn (W.set m (s:Int)) (m+1)=[.cells (bg (av W) [af (s:Nat)] (0+m * 1)) 1 0,.cells [.aL 0 0 0 (m+1) (tn+3)] 0 0,.cells [.fn 115 [] (I5 c p S u)] 0 0] from by rw [hsp]] at c1;have hln:0+(m+1) * 1≤(av W).length∧0 < (av W).length:=by rw [List.length_map];omega
    refine qq1 ?_;repeat' first|refine u1 ?_|(refine fun h=>h)|(refine fun h=>h)|(refine ⟨[af (s:Nat)],⟨by omega,hatS⟩,rfl,?_⟩)|(refine RM.Lt (cs:=av W) (els:=[[af (s:Nat)]]) rfl rfl rfl rfl rfl (fun el hel=>by rw [List.mem_singleton.1 hel];rfl) rfl rfl (fun h=>by cases h) (by show m+1+3≤tn+3;omega) hln (by show (m+1) * 8≤_∧_;simp only [List.length_singleton];omega) ?_)|refine u2 ?_|fail
    refine au.mono c1 (fun a hp' amb' hq=>?_);obtain ⟨⟨W',hW',hT',rfl⟩,b,rfl,hb⟩:=hq;have hT2:=yf hT' hm
    rcases hb with ⟨rfl,rfl⟩|⟨rfl,hstop⟩
    ·have hJ:i+(nS S k pre (q+1)).length=i+(nS S k pre q).length+(jo S k (pre++[s])).length:=by rw [hcs,List.length_append,Nat.add_assoc]
     repeat' first|refine u1 ?_|(refine RM.ID (h:=m) rfl (aH (by omega)) rfl ⟨by omega,by omega⟩ (qq6 _) ?_)|refine u2 ?_|fail
     refine ⟨(q+1,W'),⟨hqs,hW',hT2⟩,(by dsimp only;omega),?_⟩;dsimp only;rw [hJ];exact ak.to (l:=[(0,.ptr 1 0 0),(1,.pt (gM c p) 0),(2,.pt [.oq u] 0),(3,.pt [(.sl (ints (nI S)) false)] 0),(4,.ptr 2 0 0),(5,BB false),(18,(.sl (ints (nI S)) false)),(19,af (S.length:Nat)),(20,af ((q+1):Nat))]) (hp:=ud c p S u tn W' m) 3 rfl ⟨rfl,rfl,rfl,rfl,rfl,rfl,rfl,rfl,aH (by simp),trivial⟩ (qq6 _) rfl (uE c p S u tn W' m)
    ·repeat' first|refine u1 ?_|(refine RM.ID (h:=m) rfl (aH (by omega)) rfl ⟨by omega,by omega⟩ (qq6 _) ?_)|refine u2 ?_|fail
     exact ⟨⟨W',hW',hT2,rfl⟩,false,rfl,.inr ⟨rfl,hstop⟩⟩
   ·have d3:decide ((0:Int) < (m:Int))=true:=decide_eq_true (by omega);have hla:=uC hp;have hWl:W[m - 1]?=some ((dY pre:Nat):Int):=I6 (m:=m - 1) (by rw [show m - 1+1=m by omega];exact hT) (by omega);have g1:(av W)[0+(((m:Nat):Int) - 1).toNat * 1]?=some (af (dY pre:Nat)):=by rw [show (((m:Nat):Int) - 1).toNat=m - 1 by omega,Nat.zero_add,Nat.mul_one,List.getElem?_map,hWl];rfl
    by_cases hz:dY pre &&& s=0
    ·have d4:(!decide (((dY pre &&& s:Nat):Int)=0))=false:=by rw [hz];rfl
     rw [if_pos hz] at hcs;have hsp:bg (av W) [af (s:Nat)] (0+m * 1)=av (W.set m (s:Int)):=lU (k:=m) (by omega) _;have hat1:∀ j x,(jo S k (pre++[s]))[j]?=some x→xs[i+(nS S k pre q).length+j]?=some x:=fun j x hj=>by obtain ⟨R,hR⟩:=BL (S:=S) k pre (q+1);rw [Nat.add_assoc];refine hat _ x ?_;rw [hR,hcs,List.append_assoc,List.getElem?_append_right (Nat.le_add_right _ _),Nat.add_sub_cancel_left,List.getElem?_append_left (List.getElem?_eq_some_iff.1 hj).1];exact hj
     have c1:=CP one c htn h4 hS h16 u J Stop xs hy k (m+1) (i+(nS S k pre q).length) (pre++[s]) (W.set m (s:Int)) (by omega) (by rw [List.length_append,hm];rfl) (by rw [List.length_set];exact hW) (take_set (by omega) hT s) (hp.snoc hs32) hat1;rw [show ud c p S u tn (W.set m (s:Int)) (m+1)=[.cells (bg (av W) [af (s:Nat)] (0+m * 1)) 1 0,.cells [.aL 0 0 0 (m+1) (tn+3)] 0 0,.cells [.fn 115 [] (I5 c p S u)] 0 0] from by rw [hsp]] at c1;have hln:0+(m+1) * 1≤(av W).length∧0 < (av W).length:=by rw [List.length_map];omega
     refine qq1 ?_;repeat' first|refine u1 ?_|((with_reducible show RM.wpOp _ _ (.load _ _) _ _ _);refine RM.cU rfl rfl rfl g1 ?_)|((with_reducible show aQ _ _ _ _ _ _ _ _ _);refine RM.Bm (m:=dY pre) (n:=s) rfl rfl (by omega) (by omega) ?_)|(refine ⟨[af (s:Nat)],⟨by omega,hatS⟩,rfl,?_⟩)|(refine RM.Lt (cs:=av W) (els:=[[af (s:Nat)]]) rfl rfl rfl rfl rfl (fun el hel=>by rw [List.mem_singleton.1 hel];rfl) rfl rfl (fun h=>by cases h) (by show m+1+3≤tn+3;omega) hln (by show (m+1) * 8≤_∧_;simp only [List.length_singleton];omega) ?_)|refine u2 ?_|fail
     refine au.mono c1 (fun a hp' amb' hq=>?_);obtain ⟨⟨W',hW',hT',rfl⟩,b,rfl,hb⟩:=hq;have hT2:=yf hT' hm
     rcases hb with ⟨rfl,rfl⟩|⟨rfl,hstop⟩
     ·have hJ:i+(nS S k pre (q+1)).length=i+(nS S k pre q).length+(jo S k (pre++[s])).length:=by rw [hcs,List.length_append,Nat.add_assoc]
      repeat' first|refine u1 ?_|(refine RM.ID (h:=m) rfl (aH (by omega)) rfl ⟨by omega,by omega⟩ (qq6 _) ?_)|refine u2 ?_|fail
      refine ⟨(q+1,W'),⟨hqs,hW',hT2⟩,(by dsimp only;omega),?_⟩;dsimp only;rw [hJ];exact ak.to (l:=[(0,.ptr 1 0 0),(1,.pt (gM c p) 0),(2,.pt [.oq u] 0),(3,.pt [(.sl (ints (nI S)) false)] 0),(4,.ptr 2 0 0),(5,BB false),(18,(.sl (ints (nI S)) false)),(19,af (S.length:Nat)),(20,af ((q+1):Nat))]) (hp:=ud c p S u tn W' m) 3 rfl ⟨rfl,rfl,rfl,rfl,rfl,rfl,rfl,rfl,aH (by simp),trivial⟩ (qq6 _) rfl (uE c p S u tn W' m)
     ·repeat' first|refine u1 ?_|(refine RM.ID (h:=m) rfl (aH (by omega)) rfl ⟨by omega,by omega⟩ (qq6 _) ?_)|refine u2 ?_|fail
      exact ⟨⟨W',hW',hT2,rfl⟩,false,rfl,.inr ⟨rfl,hstop⟩⟩
    ·have d4:(!decide (((dY pre &&& s:Nat):Int)=0))=true:=by rw [decide_eq_false (by omega)];rfl
     rw [if_neg hz,List.append_nil] at hcs;refine qq1 ?_;repeat' first|refine u1 ?_|((with_reducible show RM.wpOp _ _ (.load _ _) _ _ _);refine RM.cU rfl rfl rfl g1 ?_)|((with_reducible show aQ _ _ _ _ _ _ _ _ _);refine RM.Bm (m:=dY pre) (n:=s) rfl rfl (by omega) (by omega) ?_)|(refine ⟨[af (s:Nat)],⟨by omega,hatS⟩,rfl,?_⟩)|refine u2 ?_|fail
     refine ⟨(q+1,W),⟨hqs,hW,hT⟩,(by dsimp only;omega),?_⟩;dsimp only;rw [hcs];exact ak.to (l:=[(0,.ptr 1 0 0),(1,.pt (gM c p) 0),(2,.pt [.oq u] 0),(3,.pt [(.sl (ints (nI S)) false)] 0),(4,.ptr 2 0 0),(5,BB false),(18,(.sl (ints (nI S)) false)),(19,af (S.length:Nat)),(20,af ((q+1):Nat))]) (hp:=ud c p S u tn W m) 3 rfl ⟨rfl,rfl,rfl,rfl,rfl,rfl,rfl,rfl,aH (by simp),trivial⟩ (qq6 _) rfl (uE c p S u tn W m)
  ·have d2:decide ((q:Int) < (S.length:Int))=false:=decide_eq_false (by omega);have hqn:q=S.length:=by omega
   subst hqn;refine qq1 ?_;repeat' first|refine u1 ?_|refine u2 ?_|fail
   exact ⟨⟨W,hW,hT,rfl⟩,true,rfl,.inl ⟨rfl,by rw [Hh]⟩⟩
end Go.Proofs.YtlpmfgmldmdggaaGreat
open Go Go.RM
namespace Go.Proofs.YtlpmfgmldmdggaaGreat
set_option maxRecDepth 100000
set_option maxHeartbeats 4000000
abbrev Kx (c:aP) (p:bW) (S:List Nat):AV:=.fn 114 [] [.pt (gM c p) 0,.pt [.sl (ints (nI S)) false] 0]
theorem LF (one:Bool) (c:aP) (hg:Good c) (p:bW) (hp:uz p):Pu one 82 [.ag (gM c p)] (Kx c p (jn c p.aF)):=by
 have o1:=Kv one c hg p hp
 generalize jn c p.aF=S at *
 refine ah.body (fn:=Tryz.f82) rfl rfl rfl rfl ?_;refine qq2 ?_;repeat' first|refine u1 ?_|refine u2 ?_|fail
 refine qq2 ?_;repeat' first|refine u1 ?_|((with_reducible refine qq3 ?_);refine ah.call o1 rfl rfl ?_)|refine u2 ?_|fail
 refine ay.aN (ak.trans (ak.giveUp 0 (l:=[(1,.pt (gM c p) 0),(3,.pt [.sl (ints (nI S)) false] 0)]) (hp:=[.gone]) rfl (qq5 _) rfl ⟨.same rfl,.ptr,trivial⟩ rfl rfl) (ak.to (l:=[(1,.pt (gM c p) 0),(3,.pt [.sl (ints (nI S)) false] 0)]) (hp:=[]) 0 rfl ⟨rfl,rfl,trivial⟩ (qq5 _) rfl rfl)) ?_;refine qq1 ?_;repeat' first|refine u1 ?_|refine u2 ?_|fail
 exact ⟨[_],⟨Fz.deep rfl,trivial⟩,rfl⟩
theorem LG (one:Bool) (c:aP) (p:bW) {tn:Nat} (htn:p.turns=(tn:Int)) (h4:1≤tn∧tn≤4) {S:List Nat} (hS:lW S) (h16:S.length≤16):Eu TT TB one (Kx c p S) ((jo S tn []).map fun t=>[AV.sl (ints (nI t)) false]):=by
 refine Eu.body (fn:=Tryz.f114) rfl rfl rfl rfl fun u J Stop hy=>?_;rw [List.length_map];have c1:=CP one c htn h4.2 hS h16 u J Stop (jo S tn []) hy tn 0 0 [] (List.replicate tn 0) (by omega) rfl (List.length_replicate ..) (by rw [List.take_zero];rfl) (fun x hx=>by cases hx) (fun j x hj=>by rw [Nat.zero_add];exact hj);have hat:Nat.ble 0 0=true:=rfl;obtain ⟨t,d,aw⟩:=p;dsimp only at htn;subst htn;obtain rfl|rfl|rfl|rfl:tn=1∨tn=2∨tn=3∨tn=4:=by omega
 ·refine qq1 ?_;repeat' first|refine u1 ?_|(refine RM.LL (n:=1) rfl rfl rfl (by decide) ⟨by decide,by decide⟩ rfl ?_)|refine u2 ?_|fail
  refine au.mono c1 (fun a hp' amb' hq=>?_);obtain ⟨⟨W',hW',hT',rfl⟩,b,rfl,hb⟩:=hq;repeat' first|refine u1 ?_|refine u2 ?_|fail
  rcases hb with ⟨_,h⟩|⟨_,h⟩
  ·rw [Nat.zero_add] at h;exact Or.inl h
  ·exact Or.inr h
 ·refine qq1 ?_;repeat' first|refine u1 ?_|(refine RM.LL (n:=2) rfl rfl rfl (by decide) ⟨by decide,by decide⟩ rfl ?_)|refine u2 ?_|fail
  refine au.mono c1 (fun a hp' amb' hq=>?_);obtain ⟨⟨W',hW',hT',rfl⟩,b,rfl,hb⟩:=hq;repeat' first|refine u1 ?_|refine u2 ?_|fail
  rcases hb with ⟨_,h⟩|⟨_,h⟩
  ·rw [Nat.zero_add] at h;exact Or.inl h
  ·exact Or.inr h
 ·refine qq1 ?_;repeat' first|refine u1 ?_|(refine RM.LL (n:=3) rfl rfl rfl (by decide) ⟨by decide,by decide⟩ rfl ?_)|refine u2 ?_|fail
  refine au.mono c1 (fun a hp' amb' hq=>?_);obtain ⟨⟨W',hW',hT',rfl⟩,b,rfl,hb⟩:=hq;repeat' first|refine u1 ?_|refine u2 ?_|fail
  rcases hb with ⟨_,h⟩|⟨_,h⟩
  ·rw [Nat.zero_add] at h;exact Or.inl h
  ·exact Or.inr h
 ·refine qq1 ?_;repeat' first|refine u1 ?_|(refine RM.LL (n:=4) rfl rfl rfl (by decide) ⟨by decide,by decide⟩ rfl ?_)|refine u2 ?_|fail
  refine au.mono c1 (fun a hp' amb' hq=>?_);obtain ⟨⟨W',hW',hT',rfl⟩,b,rfl,hb⟩:=hq;repeat' first|refine u1 ?_|refine u2 ?_|fail
  rcases hb with ⟨_,h⟩|⟨_,h⟩
  ·rw [Nat.zero_add] at h;exact Or.inl h
  ·exact Or.inr h
