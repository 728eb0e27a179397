/-
  Contracts of the program's functions and of the document's. Lemmas alone; their conditions stand in them.
-/
import Derived.Test.YtlpmfgmldmdggaaGreatK10
open Go Go.RM
namespace Go.Proofs.YtlpmfgmldmdggaaGreat
set_option maxRecDepth 100000
set_option maxHeartbeats 4000000
theorem ED {t:List Nat} {q:Nat} (h:q < t.length) (m:Nat):(mT m (t.take (q+1)):Int)=(mT m (t.take q):Int)+((t[q] / 2 ^ m % 2:Nat):Int):=by
 unfold mT;rw [List.take_add_one,List.getElem?_eq_getElem h,List.countP_append];show ((_+List.countP _ [t[q]]:Nat):Int)=_;rw [List.countP_cons,List.countP_nil,Nat.testBit_eq_decide_div_mod_eq];have:t[q] / 2 ^ m % 2 < 2:=Nat.mod_lt _ (by decide);by_cases hb:t[q] / 2 ^ m % 2=1
 ·rw [hb];simp
 ·have:t[q] / 2 ^ m % 2=0:=by omega
  rw [this];simp
theorem DD (m:Nat) (t:List Nat):mT m t≤t.length:=List.countP_le_length
def tN (n:Nat) (t:List Nat) (q k:Nat):List Int:=(List.range 5).map fun m=>if m < n then (if m < k then (mT m (t.take (q+1)):Int) else (mT m (t.take q):Int)) else 0
theorem CN (n:Nat) (t:List Nat) (q k:Nat):(tN n t q k).length=5:=by unfold tN;simp
theorem Jv {n:Nat} (t:List Nat) (q k:Nat) {m:Nat} (hm:m < n) (hn:n≤5):(tN n t q k)[m]?=some (if m < k then (mT m (t.take (q+1)):Int) else (mT m (t.take q):Int)):=by unfold tN;rw [List.getElem?_map,List.getElem?_range (by omega)];simp only [Option.map_some,if_pos hm]
theorem IF (n:Nat) (t:List Nat) (q:Nat):tN n t q n=tN n t (q+1) 0:=by
 unfold tN;apply List.map_congr_left;intro m _;by_cases h:m < n
 ·rw [if_pos h,if_pos h,if_pos h,if_neg (Nat.not_lt_zero _)]
 ·rw [if_neg h,if_neg h]
theorem Kh {n:Nat} (t:List Nat) (q:Nat) {k:Nat} (hk:k < n):(tN n t q k).set k (mT k (t.take (q+1)):Int)=tN n t q (k+1):=by
 apply List.ext_getElem?;intro i;rw [List.getElem?_set,CN];unfold tN;rw [List.getElem?_map,List.getElem?_map];by_cases h5:i < 5
 ·rw [List.getElem?_range h5];simp only [Option.map_some];by_cases hki:k=i
  ·subst hki;rw [if_pos rfl,if_pos h5,if_pos hk,if_pos (Nat.lt_succ_self _)]
  ·rw [if_neg hki];by_cases hin:i < n
   ·rw [if_pos hin,if_pos hin];by_cases h:i < k
    ·rw [if_pos h,if_pos (by omega)]
    ·rw [if_neg h,if_neg (by omega)]
   ·rw [if_neg hin,if_neg hin]
 ·have e:(List.range 5)[i]?=none:=List.getElem?_eq_none (by rw [List.length_range];omega);rw [e];split
  ·rename_i hki;rw [if_neg (by omega)];rfl
  ·rfl
theorem IG (n:Nat) (t:List Nat):tN n t 0 0=[0,0,0,0,0]:=by
 have:tN n t 0 0=(List.range 5).map fun _=>(0:Int):=by unfold tN;apply List.map_congr_left;intro m _;rw [if_neg (Nat.not_lt_zero _),List.take_zero];split <;> rfl
 rw [this];rfl
theorem Ki (one:Bool) (c:aP) (hg:Good c) (p:bW) (hp:uz p) (t:List Nat) (f:Bool) (h32:lW t) (hlen:(t.length:Int)≤p.turns):Pu one 83 [.ag (gM c p),.sl (ints (nI t)) f] (af (lz c p t)):=by
 have em:((c.aA.map bS).length:Int)=c.aA.length:=by simp
 have et:((ints (nI t)).length:Int)=t.length:=by simp
 have hm5:=hg.aA;have ht4:=hp.turns;refine ah.body (fn:=Tryz.f83) rfl rfl rfl rfl ?_;refine qq1 ?_;repeat' first|refine u1 ?_|refine u2 ?_|fail
 refine ay.aN (ak.to (l:=[(2,.pt (gM c p) 0),(5,.ptr 0 0 0),(11,.sl (ints (nI t)) f),(12,af (t.length:Nat)),(13,af (0:Nat))]) (hp:=[.cells (av (tN c.aA.length t 0 0)) 0 0]) 1 (by show _=[AB.cells (av (tN c.aA.length t 0 0)) 0 0];rw [IG];rfl) ⟨rfl,rfl,rfl,aH et,rfl,trivial⟩ (qq5 _) rfl (eR _)) ?_;refine ay.loop (fun q:Nat=>q≤t.length) (fun q=>⟨aT [(2,.pt (gM c p) 0),(5,.ptr 0 0 0),(11,.sl (ints (nI t)) f),(12,af (t.length:Nat)),(13,af (q:Nat))],[.cells (av (tN c.aA.length t q 0)) 0 0],bJ.none,false,0⟩) (fun q=>t.length - q) ?_ 0 (qq5 _);intro q hq;by_cases hlt:q < t.length
 ·have dl:decide ((q:Int) < (t.length:Int))=true:=decide_eq_true (by omega);have hat:(ints (nI t))[((q:Nat):Int).toNat]?=some (eI ((t[q]:Nat):Int)):=by rw [dm (by rw [List.length_map];exact hlt),List.getElem_map]
  have hcs:=fun m=>ED hlt m;have ha32:=h32 _ (List.getElem_mem hlt)
  generalize t[q]=a at *
  refine qq1 ?_;repeat' first|refine u1 ?_|(refine ⟨[af (a:Nat)],⟨by omega,hat⟩,rfl,?_⟩)|refine u2 ?_|fail
  refine ay.aN (ak.to (l:=[(2,.pt (gM c p) 0),(5,.ptr 0 0 0),(11,.sl (ints (nI t)) f),(12,af (t.length:Nat)),(13,af (q:Nat)),(7,af (a:Nat)),(20,af (c.aA.length:Nat)),(21,af (0:Nat))]) (hp:=[.cells (av (tN c.aA.length t q 0)) 0 0]) 1 rfl ⟨rfl,rfl,rfl,rfl,rfl,rfl,aH em,rfl,trivial⟩ (qq5 _) rfl (eR _)) ?_;refine ay.loop (fun k:Nat=>k≤c.aA.length) (fun k=>⟨aT [(2,.pt (gM c p) 0),(5,.ptr 0 0 0),(11,.sl (ints (nI t)) f),(12,af (t.length:Nat)),(13,af (q:Nat)),(7,af (a:Nat)),(20,af (c.aA.length:Nat)),(21,af (k:Nat))],[.cells (av (tN c.aA.length t q k)) 0 0],bJ.none,false,0⟩) (fun k=>c.aA.length - k) ?_ 0 (qq5 _);intro k hk;by_cases hkl:k < c.aA.length
  ·have d2:decide ((k:Int) < (c.aA.length:Int))=true:=decide_eq_true (by omega);have g0:=Jv t q k hkl hm5.2;rw [if_neg (Nat.lt_irrefl _)] at g0;have g1:=nP g0;have hc:=hcs k;have hset:=Kh (n:=c.aA.length) t q hkl;rw [hc] at hset;have hsp:=lU (S:=tN c.aA.length t q k) (k:=k) (by rw [CN];omega) ((mT k (t.take q):Int)+((a / 2 ^ k % 2:Nat):Int));rw [hset] at hsp;have hln:Nat.ble (0+((k:Nat):Int).toNat * 1+1) (av (tN c.aA.length t q k)).length=true:=Nat.ble_eq_true_of_le (by rw [List.length_map,CN];omega);have b1:=DD k (t.take q);have b2:(t.take q).length≤t.length:=by rw [List.length_take];omega
   have b3:a / 2 ^ k % 2 < 2:=Nat.mod_lt _ (by decide);have hqq:a / 2 ^ k < 4611686018427387904:=Nat.lt_of_le_of_lt (Nat.div_le_self _ _) (by omega)
   generalize hC:mT k (t.take q)=y0 at *
   have hk8:k < 8:=by omega
   refine qq1 ?_;repeat' first|refine u1 ?_|((with_reducible show aQ _ _ _ _ _ _ _ _ _);refine RM.Cu (m:=a) (j:=k) rfl rfl hk8 ?_)|((with_reducible show aQ _ _ _ _ _ _ _ _ _);refine RM.FY (m:=a / 2 ^ k) rfl rfl hqq ?_)|((with_reducible show RM.wpOp _ _ (.load _ _) _ _ _);refine RM.cU rfl rfl rfl g1 ?_)|((with_reducible show aR _ _ _ _ _ _);refine RM.lY rfl rfl rfl rfl rfl rfl hln ?_)|refine u2 ?_|fail
   exact ⟨k+1,hkl,(by dsimp only;omega),ak.to (l:=[(2,.pt (gM c p) 0),(5,.ptr 0 0 0),(11,.sl (ints (nI t)) f),(12,af (t.length:Nat)),(13,af (q:Nat)),(7,af (a:Nat)),(20,af (c.aA.length:Nat)),(21,af (k+1:Nat))]) (hp:=[.cells (av (tN c.aA.length t q (k+1))) 0 0]) 1 (by show _=[AB.cells (av (tN c.aA.length t q (k+1))) 0 0];rw [←hsp];rfl) ⟨rfl,rfl,rfl,rfl,rfl,rfl,rfl,aH (by simp),trivial⟩ (qq5 _) rfl (eR _)⟩
  ·have d2:decide ((k:Int) < (c.aA.length:Int))=false:=decide_eq_false (by omega);have hkn:k=c.aA.length:=by omega
   subst hkn;refine qq1 ?_;repeat' first|refine u1 ?_|refine u2 ?_|fail
   exact ⟨q+1,hlt,(by dsimp only;omega),ak.to (l:=[(2,.pt (gM c p) 0),(5,.ptr 0 0 0),(11,.sl (ints (nI t)) f),(12,af (t.length:Nat)),(13,af (q+1:Nat))]) (hp:=[.cells (av (tN c.aA.length t (q+1) 0)) 0 0]) 1 (by show _=[AB.cells (av (tN c.aA.length t (q+1) 0)) 0 0];rw [←IF];rfl) ⟨rfl,rfl,rfl,rfl,aH (by simp),trivial⟩ (qq5 _) rfl (eR _)⟩
 ·have dl:decide ((q:Int) < (t.length:Int))=false:=decide_eq_false (by omega);have hqn:q=t.length:=by omega
  subst hqn;have hw:∀ m,m < c.aA.length→(av (tN c.aA.length t t.length 0))[0+((m:Nat):Int).toNat * 1]?=some (af (mT m t:Nat)):=fun m hm=>by have:=Jv t t.length 0 hm hm5.2;rw [if_neg (Nat.not_lt_zero _),List.take_length] at this;exact nP this
  have hw0:=hw 0 (by omega);have hbe:=fun (on:Bool) (i:Nat) (hi:i < c.aA.length)=>Bp on c hg p hp (aI c 0 c.aA.length) (aI c 1 c.aA.length) (aI c 2 c.aA.length) i hi (mT i t:Nat) ⟨by omega,by have:=DD i t;omega⟩;have o0:=hbe one 0 (by omega)
  generalize hWW:tN c.aA.length t t.length 0=WW at *
  refine qq1 ?_;repeat' first|refine u1 ?_|((with_reducible show RM.wpOp _ _ (.load _ _) _ _ _);refine RM.cU rfl rfl rfl hw0 ?_)|((with_reducible refine qq3 ?_);refine ah.call o0 rfl rfl ?_)|refine u2 ?_|fail
  refine ay.aN (ak.to (l:=[(2,.pt (gM c p) 0),(5,.ptr 0 0 0),(9,af (BA c p t 0)),(42,af (c.aA.length:Nat)),(43,af (0:Nat))]) (hp:=[.cells (av (WW)) 0 0]) 1 rfl ⟨rfl,rfl,rfl,aH em,rfl,trivial⟩ (qq5 _) rfl (eR _)) ?_;refine ay.loop (fun k:Nat=>k≤c.aA.length) (fun k=>⟨aT [(2,.pt (gM c p) 0),(5,.ptr 0 0 0),(9,af (BA c p t k)),(42,af (c.aA.length:Nat)),(43,af (k:Nat))],[.cells (av (WW)) 0 0],bJ.none,false,0⟩) (fun k=>c.aA.length - k) ?_ 0 (qq5 _);intro k hk;by_cases hkl:k < c.aA.length
  ·have d2:decide ((k:Int) < (c.aA.length:Int))=true:=decide_eq_true (by omega);have hwk:=hw k hkl;have o1:=hbe true k hkl;have hs:BA c p t (k+1)=max (BA c p t k) (En c p k (mT k t:Nat)):=rfl;refine qq1 ?_;repeat' first|refine u1 ?_|((with_reducible show RM.wpOp _ _ (.load _ _) _ _ _);refine RM.cU rfl rfl rfl hwk ?_)|(refine ⟨_,_,.inl ⟨rfl,rfl⟩,o1,?_⟩)|refine u2 ?_|fail
   exact ⟨k+1,hkl,(by dsimp only;omega),ak.to (l:=[(2,.pt (gM c p) 0),(5,.ptr 0 0 0),(9,af (BA c p t (k+1))),(42,af (c.aA.length:Nat)),(43,af ((k+1):Nat))]) (hp:=[.cells (av (WW)) 0 0]) 1 rfl ⟨rfl,rfl,by rw [hs];rfl,rfl,aH (by simp),trivial⟩ (qq5 _) rfl (eR _)⟩
  ·have d2:decide ((k:Int) < (c.aA.length:Int))=false:=decide_eq_false (by omega);have hkn:k=c.aA.length:=by omega
   subst hkn;refine qq1 ?_;repeat' first|refine u1 ?_|refine u2 ?_|fail
   exact ⟨[_],⟨Fz.deep rfl,trivial⟩,rfl⟩
end Go.Proofs.YtlpmfgmldmdggaaGreat
open Go Go.RM
namespace Go.Proofs.YtlpmfgmldmdggaaGreat
set_option maxRecDepth 100000
structure uD (rk:Int→Int) (S0 S:List Int) (a b:Nat) (pv:Int) (i j:Nat):Prop where
 pr:PR S0 S a b
 pe:aO S a=pv
 lo:∀ q,a < q→q < i→rk (aO S q) < rk pv
 hi:∀ q,j < q→q < b→rk pv≤rk (aO S q)
 ai:a < i
 ij:i≤j+1
 jb:j < b
 aj:a≤j
theorem uD.up {rk:Int→Int} {S0 S:List Int} {a b:Nat} {pv:Int} {i j:Nat} (h:uD rk S0 S a b pv i j) (hij:i≤j) (hl:rk (aO S i) < rk pv):uD rk S0 S a b pv (i+1) j :=
 ⟨h.pr,h.pe,fun q h1 h2=>by
  by_cases hq:q=i
  ·rw [hq];exact hl
  ·exact h.lo q h1 (by omega),h.hi,by have:=h.ai;omega,by omega,h.jb,h.aj⟩
theorem uD.down {rk:Int→Int} {S0 S:List Int} {a b:Nat} {pv:Int} {i j:Nat} (h:uD rk S0 S a b pv i j) (hij:i≤j) (hl:rk pv≤rk (aO S j)):uD rk S0 S a b pv i (j - 1) :=
 ⟨h.pr,h.pe,h.lo,fun q h1 h2=>by
  by_cases hq:q=j
  ·rw [hq];exact hl
  ·exact h.hi q (by omega) h2,h.ai,by omega,by have:=h.jb;omega,by have:=h.ai;omega⟩
theorem uD.swap {rk:Int→Int} {S0 S:List Int} {a b:Nat} {pv:Int} {i j:Nat} (hb:b≤S0.length) (h:uD rk S0 S a b pv i j) (hij:i≤j) (hi:rk pv≤rk (aO S i)) (hj:rk (aO S j) < rk pv):i < j∧uD rk S0 (sw S i j) a b pv (i+1) (j - 1):=by
 have hne:i ≠ j:=fun e=>by rw [e] at hi;omega
 have h1:=h.ai;have h2:=h.jb;have hl:=h.pr.len;have g:=mR (S:=S) (i:=i) (j:=j) (by omega) (by omega);refine ⟨by omega,h.pr.trans (PR.sw (by omega) ⟨by omega,by omega⟩ ⟨by omega,by omega⟩),?_,fun q hq1 hq2=>?_,fun q hq1 hq2=>?_,by omega,by omega,by omega,by omega⟩
 ·rw [g,if_neg (by omega),if_neg (by omega)];exact h.pe
 ·rw [g,if_neg (by omega)];by_cases hq:q=i
  ·rw [if_pos hq];exact hj
  ·rw [if_neg hq];exact h.lo q hq1 (by omega)
 ·rw [g];by_cases hq:q=j
  ·rw [if_pos hq];exact hi
  ·rw [if_neg hq,if_neg (by omega)];exact h.hi q (by omega) hq2
structure pU (rk:Int→Int) (S0 S:List Int) (a b m:Nat):Prop where
 pr:PR S0 S a b
 am:a≤m
 mb:m < b
 lo:∀ q,a≤q→q < m→rk (aO S q)≤rk (aO S m)
 hi:∀ q,m < q→q < b→rk (aO S m)≤rk (aO S q)
theorem uD.done {rk:Int→Int} {S0 S:List Int} {a b:Nat} {pv:Int} {i j:Nat} (hb:b≤S0.length) (h:uD rk S0 S a b pv i j) (hij:j < i):pU rk S0 (sw S j a) a b j:=by
 have h1:=h.ai;have h2:=h.jb;have h3:=h.aj;have h4:=h.ij;have hl:=h.pr.len;have g:=mR (S:=S) (i:=j) (j:=a) (by omega) (by omega)
 have gj:aO (sw S j a) j=pv:=by
  rw [g];by_cases e:j=a
  ·rw [if_pos e,e];exact h.pe
  ·rw [if_neg e,if_pos rfl];exact h.pe
 refine ⟨h.pr.trans (PR.sw (by omega) ⟨by omega,by omega⟩ ⟨by omega,by omega⟩),h3,h2,fun q hq1 hq2=>?_,fun q hq1 hq2=>?_⟩
 ·rw [gj,g];by_cases hq:q=a
  ·rw [if_pos hq];exact Int.le_of_lt (h.lo j (by omega) (by omega))
  ·rw [if_neg hq,if_neg (by omega)];exact Int.le_of_lt (h.lo q (by omega) (by omega))
 ·rw [gj,g,if_neg (by omega),if_neg (by omega)];exact h.hi q hq1 hq2
theorem uD.start {rk:Int→Int} {S0:List Int} {a b p:Nat} (hb:b≤S0.length) (hp:a≤p∧p < b):uD rk S0 (sw S0 a p) a b (aO S0 p) (a+1) (b - 1):=by
 have g:=mR (S:=S0) (i:=a) (j:=p) (by omega) (by omega);refine ⟨PR.sw (by omega) ⟨by omega,by omega⟩ hp,?_,fun q h1 h2=>by omega,fun q h1 h2=>by omega,by omega,by omega,by omega,by omega⟩;rw [g];by_cases e:a=p
 ·rw [if_pos e,e]
 ·rw [if_neg e,if_pos rfl]
structure yd (rk:Int→Int) (S0 S:List Int) (a b:Nat) (pv:Int) (i j:Nat):Prop where
 pr:PR S0 S a b
 pe:aO S a=pv
 lo:∀ q,a < q→q < i→rk (aO S q)≤rk pv
 hi:∀ q,j < q→q < b→rk pv < rk (aO S q)
 ai:a < i
 ij:i≤j+1
 jb:j < b
 aj:a≤j
theorem yd.up {rk:Int→Int} {S0 S:List Int} {a b:Nat} {pv:Int} {i j:Nat} (h:yd rk S0 S a b pv i j) (hij:i≤j) (hl:rk (aO S i)≤rk pv):yd rk S0 S a b pv (i+1) j :=
 ⟨h.pr,h.pe,fun q h1 h2=>by
  by_cases hq:q=i
  ·rw [hq];exact hl
  ·exact h.lo q h1 (by omega),h.hi,by have:=h.ai;omega,by omega,h.jb,h.aj⟩
theorem yd.down {rk:Int→Int} {S0 S:List Int} {a b:Nat} {pv:Int} {i j:Nat} (h:yd rk S0 S a b pv i j) (hij:i≤j) (hl:rk pv < rk (aO S j)):yd rk S0 S a b pv i (j - 1) :=
 ⟨h.pr,h.pe,h.lo,fun q h1 h2=>by
  by_cases hq:q=j
  ·rw [hq];exact hl
  ·exact h.hi q (by omega) h2,h.ai,by omega,by have:=h.jb;omega,by have:=h.ai;omega⟩
theorem yd.swap {rk:Int→Int} {S0 S:List Int} {a b:Nat} {pv:Int} {i j:Nat} (hb:b≤S0.length) (h:yd rk S0 S a b pv i j) (hij:i≤j) (hi:rk pv < rk (aO S i)) (hj:rk (aO S j)≤rk pv):i < j∧yd rk S0 (sw S i j) a b pv (i+1) (j - 1):=by
 have hne:i ≠ j:=fun e=>by rw [e] at hi;omega
 have h1:=h.ai;have h2:=h.jb;have hl:=h.pr.len;have g:=mR (S:=S) (i:=i) (j:=j) (by omega) (by omega);refine ⟨by omega,h.pr.trans (PR.sw (by omega) ⟨by omega,by omega⟩ ⟨by omega,by omega⟩),?_,fun q hq1 hq2=>?_,fun q hq1 hq2=>?_,by omega,by omega,by omega,by omega⟩
 ·rw [g,if_neg (by omega),if_neg (by omega)];exact h.pe
 ·rw [g,if_neg (by omega)];by_cases hq:q=i
  ·rw [if_pos hq];exact hj
  ·rw [if_neg hq];exact h.lo q hq1 (by omega)
 ·rw [g];by_cases hq:q=j
  ·rw [if_pos hq];exact hi
  ·rw [if_neg hq,if_neg (by omega)];exact h.hi q (by omega) hq2
theorem yd.start {rk:Int→Int} {S0:List Int} {a b p:Nat} (hb:b≤S0.length) (hp:a≤p∧p < b):yd rk S0 (sw S0 a p) a b (aO S0 p) (a+1) (b - 1):=by
 have g:=mR (S:=S0) (i:=a) (j:=p) (by omega) (by omega);refine ⟨PR.sw (by omega) ⟨by omega,by omega⟩ hp,?_,fun q h1 h2=>by omega,fun q h1 h2=>by omega,by omega,by omega,by omega,by omega⟩;rw [g];by_cases e:a=p
 ·rw [if_pos e,e]
 ·rw [if_neg e,if_pos rfl]
structure GS (rk:Int→Int) (S0 S:List Int) (a b m:Nat) (pv:Int):Prop where
 pr:PR S0 S a b
 am:a < m
 mb:m≤b
 lo:∀ q,a≤q→q < m→rk (aO S q)≤rk pv
 hi:∀ q,m≤q→q < b→rk pv < rk (aO S q)
theorem yd.done {rk:Int→Int} {S0 S:List Int} {a b:Nat} {pv:Int} {i j:Nat} (h:yd rk S0 S a b pv i j) (hij:j < i):GS rk S0 S a b i pv :=
 ⟨h.pr,h.ai,by have:=h.ij;have:=h.jb;omega,fun q h1 h2=>by
  by_cases hq:q=a
  ·rw [hq,h.pe];exact Int.le_refl _
  ·exact h.lo q (by omega) h2,fun q h1 h2=>h.hi q (by have:=h.ij;omega) h2⟩
end Go.Proofs.YtlpmfgmldmdggaaGreat
open Go Go.RM
namespace Go.Proofs.YtlpmfgmldmdggaaGreat
set_option maxRecDepth 100000
def tO (rk:Int→Int) (S:List Int) (a b:Nat):Prop:=a=0∨∀ i,a≤i→i < b→rk (aO S (a - 1))≤rk (aO S i)
structure PQ (rk:Int→Int) (S0 S:List Int) (a b c d:Nat):Prop where
 pr:PR S0 S a b
 ac:a≤c
 cd:c≤d
 db:d≤b
 bl:b≤S0.length
 sl:Sd rk S a c
 sr:Sd rk S d b
 xl:∀ i j,a≤i→i < c→c≤j→j < b→rk (aO S i)≤rk (aO S j)
 xr:∀ i j,a≤i→i < d→d≤j→j < b→rk (aO S i)≤rk (aO S j)
 pre:tO rk S c d
theorem PQ.start {rk:Int→Int} {S0:List Int} {a b:Nat} (hab:a≤b) (hb:b≤S0.length) (hp:tO rk S0 a b):PQ rk S0 S0 a b a b :=
 ⟨PR.refl _ _ _,qq6 _,hab,qq6 _,hb,fun i j h1 h2 h3=>by omega,fun i j h1 h2 h3=>by omega,fun i j h1 h2=>by omega,fun i j h1 h2 h3 h4=>by omega,hp⟩
theorem tO.mix {rk:Int→Int} {S S':List Int} {a b:Nat} (h:tO rk S a b) (hp:PR S S' a b) (hb:b≤S.length):tO rk S' a b:=by
 rcases h with h|h
 ·exact .inl h
 ·by_cases h0:a=0
  ·exact .inl h0
  ·refine .inr fun i h1 h2=>?_;rw [hp.out (a - 1) (by omega)];exact hp.all hb (P:=fun x=>rk (aO S (a - 1))≤rk x) h i h1 h2
theorem PQ.mix {rk:Int→Int} {S0 S S':List Int} {a b c d:Nat} (h:PQ rk S0 S a b c d) (hp:PR S S' c d):PQ rk S0 S' a b c d:=by
 have hl:=h.pr.len;have h1:=h.ac;have h2:=h.cd;have h3:=h.db;have h4:=h.bl;refine ⟨h.pr.trans (hp.wide h1 h3),h1,h2,h3,h4,h.sl.keep hp (.inl (qq6 _)),h.sr.keep hp (.inr (qq6 _)),fun i j a1 a2 a3 a4=>?_,fun i j a1 a2 a3 a4=>?_,h.pre.mix hp (by omega)⟩
 ·by_cases hj:j < d
  ·exact hp.Dp (rk:=rk) (c:=a) (d:=c) (by omega) (.inl (qq6 _)) (fun i j b1 b2 b3 b4=>h.xl i j b1 b2 b3 (by omega)) i j a1 a2 a3 hj
  ·rw [hp.out i (by omega),hp.out j (by omega)];exact h.xl i j a1 a2 a3 a4
 ·by_cases hi:c≤i
  ·exact hp.Gr (rk:=rk) (c:=d) (d:=b) (by omega) (.inr (qq6 _)) (fun i j b1 b2 b3 b4=>h.xr i j (by omega) b2 b3 b4) i j hi a2 a3 a4
  ·rw [hp.out i (by omega),hp.out j (by omega)];exact h.xr i j a1 a2 a3 a4
theorem PQ.fin {rk:Int→Int} {S0 S:List Int} {a b c d:Nat} (h:PQ rk S0 S a b c d) (hs:Sd rk S c d):Sd rk S a b:=by have h1:=h.ac;have h2:=h.cd;have h3:=h.db;exact (h.sl.glue hs (fun i j a1 a2 a3 a4=>h.xl i j a1 a2 a3 (by omega))).glue h.sr h.xr
theorem PQ.eqs {rk:Int→Int} {S0 S S':List Int} {a b c d m:Nat} {pv:Int} (h:PQ rk S0 S a b c d) (hl:GS rk S S' c d m pv) (hc:c ≠ 0) (hpv:rk pv≤rk (aO S (c - 1))):PQ rk S0 S' a b m d:=by
 have h':=h.mix hl.pr;have h1:=h.ac;have h2:=h.cd;have h3:=h.db;have h4:=hl.am;have h5:=hl.mb;have hge:∀ q,c≤q→q < d→rk pv≤rk (aO S' q):=fun q a1 a2=>by have:=(h'.pre.resolve_left hc) q a1 a2;rw [hl.pr.out (c - 1) (by omega)] at this;omega
 refine ⟨h'.pr,by omega,h5,h3,h.bl,h'.sl.glue (fun i j a1 a2 a3=>?_) (fun i j a1 a2 a3 a4=>h'.xl i j a1 a2 a3 (by omega)),h'.sr,fun i j a1 a2 a3 a4=>?_,h'.xr,.inr fun i a1 a2=>?_⟩
 ·have e1:=hl.lo i a1 (by omega);have e2:=hge j (by omega) (by omega);omega
 ·by_cases hi:i < c
  ·exact h'.xl i j a1 hi (by omega) a4
  ·by_cases hj:j < d
   ·have e1:=hl.lo i (by omega) a2;have e2:=hge j (by omega) hj;omega
   ·exact h'.xr i j a1 (by omega) (by omega) a4
 ·have e1:=hl.lo (m - 1) (by omega) (by omega);have e2:=hge i (by omega) (by omega);omega
theorem PQ.left {rk:Int→Int} {S0 S S' T:List Int} {a b c d m:Nat} (h:PQ rk S0 S a b c d) (hq:pU rk S S' c d m) (hp:PR S' T c m) (hs:Sd rk T c m):PQ rk S0 T a b (m+1) d:=by
 have h1:=h.ac;have h2:=h.cd;have h3:=h.db;have h4:=hq.am;have h5:=hq.mb;have h6:=h.bl;have h7:=h.pr.len;have h8:=hq.pr.len;have h':=(h.mix hq.pr).mix (hp.wide (qq6 _) (by omega));have em:=hp.out m (by omega);have lo:∀ q,c≤q→q < m→rk (aO T q)≤rk (aO T m):=fun q a1 a2=>by rw [em];exact hp.all (by omega) (P:=fun x=>rk x≤rk (aO S' m)) hq.lo q a1 a2
 have hi:∀ q,m < q→q < d→rk (aO T m)≤rk (aO T q):=fun q a1 a2=>by rw [em,hp.out q (by omega)];exact hq.hi q a1 a2
 have s1:Sd rk T c (m+1):=hs.glue (fun i j a1 a2 a3=>by rw [show i=j by omega];exact Int.le_refl _) (fun i j a1 a2 a3 a4=>by rw [show j=m by omega];exact lo i a1 a2);refine ⟨h'.pr,by omega,h5,h3,h6,h'.sl.glue s1 (fun i j a1 a2 a3 a4=>h'.xl i j a1 a2 a3 (by omega)),h'.sr,fun i j a1 a2 a3 a4=>?_,h'.xr,.inr fun i a1 a2=>hi i (by omega) a2⟩;by_cases ic:i < c
 ·exact h'.xl i j a1 ic (by omega) a4
 ·by_cases hj:j < d
  ·have e2:=hi j (by omega) hj;by_cases im:i=m
   ·rw [im];exact e2
   ·have e1:=lo i (by omega) (by omega);omega
  ·exact h'.xr i j a1 (by omega) (by omega) a4
theorem PQ.right {rk:Int→Int} {S0 S S' T:List Int} {a b c d m:Nat} (h:PQ rk S0 S a b c d) (hq:pU rk S S' c d m) (hp:PR S' T (m+1) d) (hs:Sd rk T (m+1) d):PQ rk S0 T a b c m:=by
 have h1:=h.ac;have h2:=h.cd;have h3:=h.db;have h4:=hq.am;have h5:=hq.mb;have h6:=h.bl;have h7:=h.pr.len;have h8:=hq.pr.len;have h':=(h.mix hq.pr).mix (hp.wide (by omega) (qq6 _));have em:=hp.out m (by omega);have lo:∀ q,c≤q→q < m→rk (aO T q)≤rk (aO T m):=fun q a1 a2=>by rw [em,hp.out q (by omega)];exact hq.lo q a1 a2
 have hi:∀ q,m < q→q < d→rk (aO T m)≤rk (aO T q):=fun q a1 a2=>by rw [em];exact hp.all (by omega) (P:=fun x=>rk (aO S' m)≤rk x) (fun q a1 a2=>hq.hi q (by omega) a2) q (by omega) a2
 have s1:Sd rk T m d:=(show Sd rk T m (m+1) from fun i j a1 a2 a3=>by rw [show i=j by omega];exact Int.le_refl _).glue hs (fun i j a1 a2 a3 a4=>by rw [show i=m by omega];exact hi j (by omega) a4);refine ⟨h'.pr,h1,h4,by omega,h6,h'.sl,s1.glue h'.sr (fun i j a1 a2 a3 a4=>h'.xr i j (by omega) a2 a3 a4),h'.xl,fun i j a1 a2 a3 a4=>?_,?_⟩
 ·by_cases hj:j < d
  ·by_cases ic:i < c
   ·exact h'.xl i j a1 ic (by omega) a4
   ·have e1:=lo i (by omega) a2;by_cases jm:j=m
    ·rw [jm];exact e1
    ·have e2:=hi j (by omega) hj;omega
  ·exact h'.xr i j a1 (by omega) (by omega) a4
 ·rcases h'.pre with hp0|hp0
  ·exact .inl hp0
  ·exact .inr fun i a1 a2=>hp0 i a1 (by omega)
theorem PQ.Me {rk:Int→Int} {S0 S S':List Int} {a b c d m:Nat} (h:PQ rk S0 S a b c d) (hq:pU rk S S' c d m):tO rk S' c m:=by
 have h5:=hq.mb
 rcases (h.mix hq.pr).pre with hp0|hp0
 ·exact .inl hp0
 ·exact .inr fun i a1 a2=>hp0 i a1 (by omega)
theorem pU.Mf {rk:Int→Int} {S S':List Int} {c d m:Nat} (hq:pU rk S S' c d m):tO rk S' (m+1) d :=
 .inr fun i a1 a2=>hq.hi i (by omega) a2
end Go.Proofs.YtlpmfgmldmdggaaGreat
open Go Go.RM
namespace Go.Proofs.YtlpmfgmldmdggaaGreat
set_option maxRecDepth 100000
set_option maxHeartbeats 4000000
abbrev aM (S:List Int) (aE:Nat):AB:=.cells (av S) 1 aE
theorem aJ {S:List Int} {k p:Nat} (h:k < S.length) (hp:p=k):(av S)[p]?=some (af (aO S k)):=by subst hp;rw [List.getElem?_map,lV h];rfl
theorem zK {S:List Int} {k p:Nat} (h:k < S.length) (hp:p=k) (x:Int):bg (av S) [af x] p=av (S.set k x):=by have:=lU h x;rw [Int.toNat_natCast,Nat.zero_add,Nat.mul_one] at this;rw [hp];exact this
theorem ej {S:List Int} {k p:Nat} (h:k < S.length) (hp:p=k):Nat.ble (p+1) (av S).length=true:=Nat.ble_eq_true_of_le (by rw [List.length_map];omega)
theorem dh {R:List Int} {i j p q:Nat} (hi:i < R.length) (hj:j < R.length) (hp:p=i) (hq:q=j):bg (bg (av R) [af (aO R j)] p) [af (aO R i)] q=av (sw R i j):=by rw [zK hi hp,zK (by simpa using hj) hq];rfl
theorem gz {R:List Int} {i j p q:Nat} (hi:i < R.length) (hj:j < R.length) (hp:p=i) (hq:q=j) (x:Int):Nat.ble (q+1) (bg (av R) [af x] p).length=true:=by rw [zK hi hp];exact ej (by simpa using hj) hq
end Go.Proofs.YtlpmfgmldmdggaaGreat
open Go Go.RM
namespace Go.Proofs.YtlpmfgmldmdggaaGreat
set_option maxRecDepth 100000
set_option maxHeartbeats 4000000
abbrev CF:AV:=.fn 130 [] []
def zP (S:List Int):Prop:=∀ x ∈ S,0≤x∧x < 32
theorem zP.at {S:List Int} (h:zP S) {i:Nat} (hi:i < S.length):0≤aO S i∧aO S i < 32:=h _ (Dm hi)
theorem zP.pr {S S':List Int} {a b:Nat} (h:zP S) (hp:PR S S' a b):zP S':=fun x hx=>h x (hp.perm.mem_iff.1 hx)
theorem Lz (one:Bool) {x y:Int} (hx:0≤x∧x < 32) (hy:0≤y∧y < 32):ah TT TB one CF [af x,af y] (af (rD (cg x) (cg y))):=by obtain ⟨a,rfl⟩:∃ a:Nat,x=a:=⟨x.toNat,by omega⟩;obtain ⟨b,rfl⟩:∃ b:Nat,y=b:=⟨y.toNat,by omega⟩;exact J3 one a b (by omega) (by omega)
theorem rG (one:Bool) {x y:Int} (hx:0≤x∧x < 32) (hy:0≤y∧y < 32) (h:cg x < cg y):∃ z:Int,decide (z < 0)=true∧ah TT TB one CF [af x,af y] (af z) :=
 ⟨_,by unfold rD;rw [if_pos h];rfl,Lz one hx hy⟩
theorem rH (one:Bool) {x y:Int} (hx:0≤x∧x < 32) (hy:0≤y∧y < 32) (h:¬cg x < cg y):∃ z:Int,decide (z < 0)=false∧ah TT TB one CF [af x,af y] (af z) :=
 ⟨_,by
  unfold rD;rw [if_neg h]
  split <;> rfl,Lz one hx hy⟩
