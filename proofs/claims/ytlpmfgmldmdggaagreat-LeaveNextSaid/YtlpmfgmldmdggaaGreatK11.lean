/-
  Contracts of the program's functions and of the document's. Lemmas alone; their conditions stand in them.
-/
import Derived.Test.YtlpmfgmldmdggaaGreatA2
import Derived.Test.YtlpmfgmldmdggaaGreatA3
import Derived.Test.YtlpmfgmldmdggaaGreatX1
import Derived.Test.YtlpmfgmldmdggaaGreatK1
import Derived.Test.YtlpmfgmldmdggaaGreatK7
import Derived.Test.YtlpmfgmldmdggaaGreatK10
open Go Go.RM
namespace Go.Proofs.YtlpmfgmldmdggaaGreat
set_option maxRecDepth 100000
def Db (c:ay) (p:List Ev):Nat:=(List.range c.aO.length).countP fun i=>decide (aB c p i=0)
theorem sQ (q:Nat→Bool) (i:Nat):∀ n,i < n→(List.range n).countP q=((List.range n).countP fun j=>!decide (j=i) && q j)+if q i=true then 1 else 0
 | n+1,h=>by
  rw [List.range_succ,List.countP_append,List.countP_append,List.countP_singleton,List.countP_singleton]
  by_cases hi:i=n
  ·subst hi
   have e:(List.range i).countP q=(List.range i).countP fun j=>!decide (j=i) && q j:=by
    apply List.countP_congr
    intro j hj
    have:j ≠ i:=by have:=List.mem_range.1 hj;omega
    simp [this]
   rw [e]
   simp
  ·have ih:=sQ q i n (by omega)
   rw [ih]
   have:n ≠ i:=fun h=>hi h.symm
   simp only [this,decide_false,Bool.not_false,Bool.true_and]
   omega
theorem Hf {c:ay} {p:List Ev} {x:Ev} (h:fk c p x=0) (hk:x.kind ≠ 3) (hb:c.least≤(Db c p:Int)):c.least≤(Db c (p++[x]):Int):=by
 unfold fk at h
 split at h
 ·cases h
 rename_i h1
 split at h
 ·cases h
 rename_i h2
 split at h
 ·cases h
 rename_i h3
 rw [Bd] at h2
 have b2:kS x.qp 0 ((c.aO.length:Int) - 1)=true∧kS x.other 0 ((c.aO.length:Int) - 1)=true:=by simpa using h2
 have b4:=bL.1 b2.1
 have b5:=bL.1 b2.2
 obtain ⟨d,k,m,o⟩:=x
 dsimp only at *
 obtain ⟨i,rfl⟩:∃ i:Nat,m=(i:Int):=⟨m.toNat,by omega⟩
 obtain ⟨j,rfl⟩:∃ j:Nat,o=(j:Int):=⟨o.toNat,by omega⟩
 have hin:i < c.aO.length:=by omega
 have hjn:j < c.aO.length:=by omega
 unfold kindOk at h1
 rw [bp,Bool.not_not] at h1
 dsimp only at h1
 have h1:kS k 1 5=true∧(decide (k=5) && !decide ((j:Int)=(i:Int)) || !decide (k=5) && decide ((j:Int)=0))=true:=by
  have:=(Bool.not_eq_false _).mp h1
  exact (Bool.and_eq_true _ _).mp this
 have hk1:=bL.1 h1.1
 have hk2:=h1.2
 have up:k ≠ 5→k ≠ 1→c.least≤(Db c (p++[⟨d,k,(i:Int),(j:Int)⟩]):Int):=by
  intro h5 h11
  have:Db c p≤Db c (p++[⟨d,k,(i:Int),(j:Int)⟩]):=by
   unfold Db
   apply List.countP_mono_left
   intro z _ hz
   rw [hH,pz h5]
   by_cases hzi:z=i
   ·rw [if_pos hzi,if_neg (show ¬ (k=1∨k=5) by omega),if_neg hk]
    rfl
   ·rw [if_neg hzi]
    exact hz
  omega
 obtain e|e|e|e|e:k=1∨k=2∨k=3∨k=4∨k=5:=by omega
 ·subst e
  rw [HA] at h
  split at h
  ·cases h
  split at h
  ·cases h
  split at h
  ·cases h
  rename_i h6
  have:Db c (p++[⟨d,1,(i:Int),(j:Int)⟩])=Bj c p i c.aO.length:=by
   unfold Db Bj
   apply List.countP_congr
   intro z _
   rw [hH,pz (by decide)]
   by_cases hzi:z=i
   ·rw [if_pos hzi]
    simp [hzi]
   ·rw [if_neg hzi]
    simp [hzi]
  rw [this]
  omega
 ·exact up (by omega) (by omega)
 ·exact absurd e hk
 ·exact up (by omega) (by omega)
 ·subst e
  have hij:j ≠ i:=by
   intro h
   subst h
   simp at hk2
  rw [HB] at h
  split at h
  ·cases h
  rename_i h6
  have h6:aB c p i=0:=Decidable.not_not.1 h6
  split at h
  ·rename_i h7
   have e1:=sQ (fun z=>decide (aB c p z=0)) i _ hin
   have e2:=sQ (fun z=>decide (aB c (p++[⟨d,5,(i:Int),(j:Int)⟩]) z=0)) j _ hjn
   have e3:((List.range c.aO.length).countP fun z=>!decide (z=i) && decide (aB c p z=0))=(List.range c.aO.length).countP fun z=>!decide (z=j) && decide (aB c (p++[⟨d,5,(i:Int),(j:Int)⟩]) z=0):=by
    apply List.countP_congr
    intro z _
    rw [hH,zB]
    by_cases hzj:z=j
    ·subst hzj
     simp [h7]
    ·rw [if_neg hzj]
     by_cases hzi:z=i
     ·subst hzi
      simp
     ·rw [if_neg hzi]
      simp [hzi,hzj]
   rw [if_pos (by rw [h6];rfl)] at e1
   rw [if_pos (by rw [hH,zB,if_pos rfl];rfl)] at e2
   unfold Db at hb ⊢
   rw [e2,←e3,←e1]
   exact hb
  ·cases h
theorem FY {c:ay}:∀ {l:List Ev} {k:Nat} {p q:List Ev},(∀ x ∈ l,x.kind ≠ 3)→xh c k p l=.inr q→c.least≤(Db c p:Int)→c.least≤(Db c q:Int)
 | [],k,p,q,_,h,hb=>by cases h;exact hb
 | x :: l,k,p,q,hk,h,hb=>by
  rw [wA] at h
  split at h
  ·rename_i h1
   exact FY (fun y hy=>hk y (List.mem_cons_of_mem _ hy)) h (Hf h1 (hk x (by simp)) hb)
  ·cases h
structure Vd (c:ay) (l:List Ev):Prop where
 good:Good c
 len:l.length≤20
 run:xh c 0 [] l=.inr l
 mono:jc l
theorem Iw {c:ay} {l:List Ev} (hd:∀ x ∈ l,x.day≤later) (h:(wC c l).2=0):Vd c l:=by
 have hcl:=FX (c:=c) hd
 rw [hcl] at h
 split at h
 ·rename_i h1;exact absurd h h1
 ·rename_i h1
  split at h
  ·cases h
  ·rename_i h2
   cases h3:xh c 0 [] l with
   | inl e =>
    rw [h3] at h
    exfalso
    have h4:∀ {l:List Ev} {k:Nat} {p:List Ev} {e:Nat × Int},xh c k p l=.inl e→e.2 ≠ 0:=by
     intro l
     induction l with
     | nil=>intro k p e h;cases h
     | cons x l ih =>
      intro k p e h
      rw [wA] at h
      split at h
      ·exact ih h
      ·rename_i h5
       cases h
       exact h5
    exact h4 h3 h
   | inr q =>
    obtain ⟨h4,h5⟩:=rN iB h3
    rw [List.nil_append] at h4
    subst h4
    exact ⟨zw (Decidable.not_not.1 h1),by omega,h3,h5⟩
theorem HC {c:ay} {l:List Ev} (h:Vd c l) {D:Int} (hD:0≤D):Cp c l D=(List.range c.aO.length).map fun i=>sP c l i D:=by
 have hd:∀ x ∈ l,x.day≤later:=fun x hx=>Int.le_trans (h.mono.day x hx).2 (by decide)
 have h1:=mA (c:=c) (D:=later) (k:=0) iB hd
 rw [show aJ []=0 from rfl,←rK,h.run] at h1
 exact (Iv hd h1 hD).2
theorem Jm {c:ay} {l:List Ev} (h:(wC c l).2=0) {D:Int} (hD:0≤D∧D≤40000):C7 c l D=0:=by
 unfold C7
 rw [if_neg (by rw [h];simp),bp,bL.2 hD]
 rfl
theorem FZ {c:ay} {l:List Ev} (h:Vd c l) {D:Int} (hD:0≤D):gi (Cp c l D)=Db c (cu D l):=by
 rw [HC h hD]
 unfold gi Db
 rw [List.countP_map]
 rfl
theorem Cx {c:ay} {l:List Ev} (h:Vd c l) (hk:∀ x ∈ l,x.kind ≠ 3) {D:Int} (hD:0≤D) (h0:c.least≤(Db c []:Int)):c.least≤(gi (Cp c l D):Int):=by
 rw [FZ h hD]
 obtain ⟨q,hq⟩:=wz (n:=cP D l) h.run
 rw [ja] at hq
 obtain ⟨h4,_⟩:=rN iB hq
 rw [List.nil_append] at h4
 subst h4
 exact FY (fun x hx=>hk x (by rw [←ja] at hx;exact List.mem_of_mem_take hx)) hq h0
end Go.Proofs.YtlpmfgmldmdggaaGreat
open Go Go.RM
namespace Go.Proofs.YtlpmfgmldmdggaaGreat
set_option maxRecDepth 100000
set_option maxHeartbeats 4000000
section
variable {own : Bool} {fr : Nat → AV} {hp : List AB} {K : AV → List AB → Prop} {x : Operand} {n : Nat}
theorem Jn (hx:aQ fr x=.fl (.int .u16 ((n:Nat):Int))) (h:n≤65535) (k:K (aj (n:Nat)) hp):RM.wpOp TT own (.convert 63 3 x) fr hp K:=by
 show B4 TT 63 3 (aQ fr x) hp K
 rw [hx]
 have:cU (aA TT.P (convert 63 3 (.int .u16 ((n:Nat):Int))))=some (.int .i64 (IntKind.i64.wrap ((n:Nat):Int)),.none):=rfl
 rw [IntWalk.i64_in ((n:Nat):Int) (by omega)] at this
 exact ⟨_,rfl,_,this,rfl,k⟩
end
theorem Jo (one:Bool):Pu one 26 [] (BB true):=af.closed (fun _=>rfl) rfl
theorem Iy (one:Bool) (c:ay) (h:c.Ok) (l:List Ev) (f:Bool) (hl:l.length≤maxLen) (hd:∀ x ∈ l,x.day≤later):Pu one 40 [.ag (aX c),.sl (l.map cO) f] (BB (decide ((wC c l).2=0))):=by
 have o1:=Bq one c h l f hl hd
 generalize (wC c l).1=a at *
 generalize (wC c l).2=e at *
 refine af.body (fn:=Tryz.f40) rfl rfl rfl rfl ?_
 refine aa (mu:=fun _=>false) ?_
 repeat' (first |refine u1 ?_ |((with_reducible show ah _ _ _ _ _ _ _ _);refine af.call o1 rfl rfl ?_) |refine u2 ?_ |fail)
 exact ⟨[_],⟨Fz.deep rfl,trivial⟩,rfl⟩
theorem Hg (one:Bool) (ls:List Acc) (f:Bool) (hl:ls.length≤maxLen):Pu one 41 [.sl (ls.map iz) f] (aj (gi ls:Int)):=by
 have el:((ls.map iz).length:Int)=ls.length:=by simp
 have ml:ls.length≤9223372036854775807:=Nat.le_trans hl (by simp [maxLen])
 refine af.body (fn:=Tryz.f41) rfl rfl rfl rfl ?_
 refine aa (mu:=fun _=>false) ?_
 repeat' (first |refine u1 ?_ |refine u2 ?_ |fail)
 refine aL.cr (ai.to (l:=[(0,.sl (ls.map iz) f),(3,aj (gi (ls.take 0):Int)),(4,aj (0:Nat))]) (hp:=[]) 0 rfl ⟨rfl,rfl,rfl,trivial⟩ (Nat.zero_le _) rfl rfl) ?_
 refine aL.loop (fun k:Nat=>k≤ls.length) (fun k=>⟨cz [(0,.sl (ls.map iz) f),(3,aj (gi (ls.take k):Int)),(4,aj (k:Nat))],[],bF.none,false,0⟩) (fun k=>ls.length - k) ?_ 0 (Nat.zero_le _)
 intro k hk
 have hbk:gi (ls.take k)≤k:=by
  have:=List.countP_le_length (p:=fun a:Acc=>decide (a.place=0)) (l:=ls.take k)
  unfold gi
  rw [List.length_take] at this
  omega
 by_cases hlt:k < ls.length
 ·have d1:decide ((k:Int) < ((ls.map iz).length:Int))=true:=decide_eq_true (by omega)
  have hat:(ls.map iz)[((k:Nat):Int).toNat]?=some (iz ls[k]):=cM hlt
  have hs:=wh hlt
  generalize ls[k]=a at *
  obtain ⟨p,o,x0,x1,x2⟩:=a
  dsimp only at hs
  cases ep:decide (p=0) with
  | true =>
   rw [if_pos (of_decide_eq_true ep)] at hs
   refine aa (mu:=fun _=>false) ?_
   repeat' (first |refine u1 ?_ |(refine ⟨[aj p,aj o,aj x0,aj x1,aj x2],⟨by omega,hat⟩,rfl,?_⟩) |refine u2 ?_ |fail)
   exact ⟨k+1,hlt,(by dsimp only;omega),ai.to 0 rfl ⟨rfl,cZ (by rw [hs];simp),cZ (by simp),trivial⟩ (Nat.zero_le _) rfl rfl⟩
  | false =>
   rw [if_neg (of_decide_eq_false ep)] at hs
   refine aa (mu:=fun _=>false) ?_
   repeat' (first |refine u1 ?_ |(refine ⟨[aj p,aj o,aj x0,aj x1,aj x2],⟨by omega,hat⟩,rfl,?_⟩) |refine u2 ?_ |fail)
   exact ⟨k+1,hlt,(by dsimp only;omega),ai.to 0 rfl ⟨rfl,by dsimp only;rw [hs];rfl,cZ (by simp),trivial⟩ (Nat.zero_le _) rfl rfl⟩
 ·have d1:decide ((k:Int) < ((ls.map iz).length:Int))=false:=decide_eq_false (by omega)
  have e:ls.take k=ls:=List.take_of_length_le (by omega)
  rw [e]
  refine aa (mu:=fun _=>false) ?_
  repeat' (first |refine u1 ?_ |refine u2 ?_ |fail)
  exact ⟨[_],⟨Fz.deep rfl,trivial⟩,rfl⟩
end Go.Proofs.YtlpmfgmldmdggaaGreat
open Go Go.RM
namespace Go.Proofs.YtlpmfgmldmdggaaGreat
set_option maxRecDepth 100000
abbrev Eb:Sh:=.int .i64
abbrev Jp:Sh:=.int .u16
abbrev F0:Sh:=.cons .str (.cons Eb (.cons Eb (.cons Eb (.cons Eb .nil))))
abbrev HD:Sh:=.cons .str (.cons Eb (.cons Eb (.cons .bool .nil)))
abbrev F2:Sh:=.cons (.slice F0) (.cons (.slice HD) (.cons Eb .nil))
abbrev Iz:Sh:=.cons Eb (.cons Eb (.cons Eb (.cons Eb .nil)))
theorem F3 {l:List AV} (h:TV Eb l):∃ n,(Lit.int .i64 n).wf=true∧l=eI n:=by
 cases h with
 | int h=>exact ⟨_,h,rfl⟩
theorem Kt {k:IntKind} {l:List AV} (h:TV (.int k) l):∃ n,(Lit.int k n).wf=true∧l=[.fl (.int k n)]:=by
 cases h with
 | int h=>exact ⟨_,h,rfl⟩
theorem Ku {l:List AV} (h:TV .bool l):∃ b,l=[BB b]:=by
 cases h with
 | bool=>exact ⟨_,rfl⟩
theorem J0 {l:List AV} (h:TV .str l):∃ s:ByteArray,s.size≤maxLen∧l=[ST s]:=by
 cases h with
 | str h=>exact ⟨_,h,rfl⟩
theorem Bu {a b:Sh} {l:List AV} (h:TV (.cons a b) l):∃ x y,TV a x∧TV b y∧l=x++y:=by
 cases h with
 | cons h k=>exact ⟨_,_,h,k,rfl⟩
theorem Jy {l:List AV} (h:TV .nil l):l=[]:=by cases h;rfl
theorem JM {s:Sh} {l:List AV} (h:TV (.slice s) l):∃ els,els.length≤maxLen∧(∀ el ∈ els,TV s el)∧l=[.sl els false]:=by
 cases h with
 | slice h k=>exact ⟨_,h,k,rfl⟩
theorem Dc {α:Type} {e:α→List AV} {P:α→Prop}:∀ {els:List (List AV)},(∀ el ∈ els,∃ x,P x∧el=e x)→∃ l:List α,(∀ x ∈ l,P x)∧els=l.map e
 | [],_=>⟨[],⟨List.forall_mem_nil _,rfl⟩⟩
 | el :: els,h=>by
  obtain ⟨x,hx,rfl⟩:=h el (by simp)
  obtain ⟨l,hl,rfl⟩:=Dc fun el hel=>h el (List.mem_cons_of_mem _ hel)
  exact ⟨x :: l,⟨List.forall_mem_cons.2 ⟨hx,hl⟩,rfl⟩⟩
theorem IA {n:Int} (h:(Lit.int .i64 n).wf=true):n≤later:=by
 have h1:IntKind.i64.min=-9223372036854775808:=rfl
 have h2:IntKind.i64.max=9223372036854775807:=rfl
 simp [Lit.wf] at h
 show n≤9223372036854775807
 omega
theorem IB {l:List AV} (h:TV F0 l):∃ x:fA,x.name.data.toList.length≤maxLen∧l=bu x:=by
 obtain ⟨_,_,h1,k1,rfl⟩:=Bu h
 obtain ⟨_,_,h2,k2,rfl⟩:=Bu k1
 obtain ⟨_,_,h3,k3,rfl⟩:=Bu k2
 obtain ⟨_,_,h4,k4,rfl⟩:=Bu k3
 obtain ⟨_,_,h5,k5,rfl⟩:=Bu k4
 obtain rfl:=Jy k5
 obtain ⟨a,ha,rfl⟩:=J0 h1
 obtain ⟨b,_,rfl⟩:=F3 h2
 obtain ⟨c,_,rfl⟩:=F3 h3
 obtain ⟨d,_,rfl⟩:=F3 h4
 obtain ⟨e,_,rfl⟩:=F3 h5
 exact ⟨⟨a,b,c,d,e⟩,by simpa using ha,rfl⟩
theorem Jq {l:List AV} (h:TV HD l):∃ x:nE,x.name.data.toList.length≤maxLen∧l=bG x:=by
 obtain ⟨_,_,h1,k1,rfl⟩:=Bu h
 obtain ⟨_,_,h2,k2,rfl⟩:=Bu k1
 obtain ⟨_,_,h3,k3,rfl⟩:=Bu k2
 obtain ⟨_,_,h4,k4,rfl⟩:=Bu k3
 obtain rfl:=Jy k4
 obtain ⟨a,ha,rfl⟩:=J0 h1
 obtain ⟨b,_,rfl⟩:=F3 h2
 obtain ⟨c,_,rfl⟩:=F3 h3
 obtain ⟨d,rfl⟩:=Ku h4
 exact ⟨⟨a,b,c,d⟩,by simpa using ha,rfl⟩
theorem IC {l:List AV} (h:TV F2 l):∃ c:ay,c.Ok∧l=aX c:=by
 obtain ⟨_,_,h1,k1,rfl⟩:=Bu h
 obtain ⟨_,_,h2,k2,rfl⟩:=Bu k1
 obtain ⟨_,_,h3,k3,rfl⟩:=Bu k2
 obtain rfl:=Jy k3
 obtain ⟨a,ha,ha',rfl⟩:=JM h1
 obtain ⟨a,hn,rfl⟩:=Dc (e:=bu) fun el hel=>IB (ha' el hel)
 obtain ⟨b,hb,hb',rfl⟩:=JM h2
 obtain ⟨b,hm,rfl⟩:=Dc (e:=bG) fun el hel=>Jq (hb' el hel)
 obtain ⟨d,_,rfl⟩:=F3 h3
 exact ⟨⟨a,b,d⟩,⟨by simpa using ha,hn,by simpa using hb,hm⟩,rfl⟩
theorem JN {l:List AV} (h:TV Iz l):∃ x:Ev,x.day≤later∧l=cO x:=by
 obtain ⟨_,_,h1,k1,rfl⟩:=Bu h
 obtain ⟨_,_,h2,k2,rfl⟩:=Bu k1
 obtain ⟨_,_,h3,k3,rfl⟩:=Bu k2
 obtain ⟨_,_,h4,k4,rfl⟩:=Bu k3
 obtain rfl:=Jy k4
 obtain ⟨a,ha,rfl⟩:=F3 h1
 obtain ⟨b,_,rfl⟩:=F3 h2
 obtain ⟨c,_,rfl⟩:=F3 h3
 obtain ⟨d,_,rfl⟩:=F3 h4
 exact ⟨⟨a,b,c,d⟩,IA ha,rfl⟩
theorem Jr {l:List AV} (h:TV (.slice Iz) l):∃ p:List Ev,p.length≤maxLen∧(∀ x ∈ p,x.day≤later)∧l=[.sl (p.map cO) false]:=by
 obtain ⟨a,ha,ha',rfl⟩:=JM h
 obtain ⟨a,hc,rfl⟩:=Dc (e:=cO) fun el hel=>JN (ha' el hel)
 exact ⟨a,by simpa using ha,hc,rfl⟩
theorem JO {l:List AV} (h:TV Jp l):∃ n:Nat,n≤65535∧l=[.fl (.int .u16 ((n:Nat):Int))]:=by
 obtain ⟨n,hn,rfl⟩:=Kt h
 have h1:IntKind.u16.min=0:=rfl
 have h2:IntKind.u16.max=65535:=rfl
 simp [Lit.wf] at hn
 obtain ⟨m,rfl⟩:∃ m:Nat,n=(m:Int):=⟨n.toNat,by omega⟩
 exact ⟨m,by omega,rfl⟩
theorem Js:∀ e ∈ TB,gm TT e:=by
 intro e he
 unfold TB at he
 rw [List.mem_singleton.1 he]
 exact I8
end Go.Proofs.YtlpmfgmldmdggaaGreat
open Go Go.RM
namespace Go.Proofs.YtlpmfgmldmdggaaGreat
set_option maxRecDepth 100000
set_option maxHeartbeats 4000000
def jd (c:ay) (k:Nat):Nat:=(List.range k).countP fun i=>decide (gK c i=0)
theorem Br (c:ay) (k:Nat):jd c (k+1)=jd c k+if gK c k=0 then 1 else 0:=by
 unfold jd
 rw [List.range_succ,List.countP_append,List.countP_singleton]
 simp
theorem D9 (c:ay) (k:Nat):jd c k≤k:=by
 unfold jd
 have:=List.countP_le_length (p:=fun i=>decide (gK c i=0)) (l:=List.range k)
 rwa [List.length_range] at this
theorem F4 (c:ay) (h:c.Ok) (l:List Ev) (f:Bool) (hl:l.length≤maxLen) (hd:∀ x ∈ l,x.day≤later) (n:Nat) (hn:n≤65535):Pu false 9 [.ag (aX c),.sl (l.map cO) f,.fl (.int .u16 ((n:Nat):Int))] (BB true):=by
 have el:((l.map cO).length:Int)=l.length:=by simp
 have em:((c.aO.map bG).length:Int)=c.aO.length:=by simp
 have ml:l.length≤9223372036854775807:=Nat.le_trans hl (by simp [maxLen])
 have o1:=Iy false c h l f hl hd
 have aw:=Jo false
 have awt:=Jo true
 cases e0:decide ((wC c l).2=0) with
 | false =>
  rw [e0] at o1
  refine af.body (fn:=Tryz.f9) rfl rfl rfl rfl ?_
  refine aa (mu:=fun _=>false) ?_
  repeat' (first |refine u1 ?_ |((with_reducible show ah _ _ _ _ _ _ _ _);refine af.call o1 rfl rfl ?_) |((with_reducible show ah _ _ _ _ _ _ _ _);refine af.call aw rfl rfl ?_) |refine u2 ?_ |fail)
  exact ⟨[_],⟨Fz.deep rfl,trivial⟩,rfl⟩
 | true =>
  rw [e0] at o1
  have hcl:=of_decide_eq_true e0
  have hv:=Iw hd hcl
  have hm5:=hv.good.aO
  obtain ⟨D,hD⟩:∃ D:Int,D=((n:Nat):Int) % 40001:=⟨_,rfl⟩
  have hD0:0≤D∧D≤40000:=by omega
  have hon:=Jm hcl hD0
  have o2:=Cq false c h l f hl hd D
  unfold Im at o2
  rw [if_pos hon,hon] at o2
  have hla:(Cp c l D).length=c.aO.length:=by rw [HC hv hD0.1];simp
  have o3:=Hg true (Cp c l D) false (by rw [hla];simp [maxLen];omega)
  have hlaw:(∀ x ∈ l,x.kind ≠ 3)→c.least≤(jd c c.aO.length:Int)→c.least≤(gi (Cp c l D):Int):=fun hk h0=>Cx hv hk hD0.1 h0
  have ea:(((Cp c l D).map iz).length:Int)=c.aO.length:=by simp [hla]
  generalize Cp c l D=A at *
  refine af.body (fn:=Tryz.f9) rfl rfl rfl rfl ?_
  refine aa (mu:=fun _=>false) ?_
  repeat' (first |refine u1 ?_ |((with_reducible show ah _ _ _ _ _ _ _ _);refine af.call o1 rfl rfl ?_) |refine u2 ?_ |fail)
  refine aL.cr (ai.to (l:=[(1,.sl (l.map cO) f),(2,.fl (.int .u16 ((n:Nat):Int))),(3,.pt (aX c) 0),(7,aj (jd c 0:Int)),(8,aj (0:Nat))]) (hp:=[]) 0 rfl ⟨rfl,rfl,rfl,rfl,rfl,trivial⟩ (Nat.zero_le _) rfl rfl) ?_
  refine aL.loop (fun k:Nat=>k≤c.aO.length) (fun k=>⟨cz [(1,.sl (l.map cO) f),(2,.fl (.int .u16 ((n:Nat):Int))),(3,.pt (aX c) 0),(7,aj (jd c k:Int)),(8,aj (k:Nat))],[],bF.none,false,0⟩) (fun k=>c.aO.length - k) ?_ 0 (Nat.zero_le _)
  intro k hk
  have hfk:=D9 c k
  by_cases hlt:k < c.aO.length
  ·have d1:decide ((k:Int) < ((c.aO.map bG).length:Int))=true:=decide_eq_true (by omega)
   have hat:(c.aO.map bG)[((k:Nat):Int).toNat]?=some (bG c.aO[k]):=cM hlt
   have hs:=Br c k
   have hst:gK c k=if c.aO[k].zm=true then 1 else 0:=by
    unfold gK
    rw [List.getElem?_eq_getElem hlt]
    rfl
   rw [hst] at hs
   generalize c.aO[k]=x at *
   obtain ⟨xa,xb,xc,xd⟩:=x
   dsimp only at hs
   cases xd with
   | true =>
    rw [if_pos rfl,if_neg (by decide)] at hs
    refine aa (mu:=fun _=>false) ?_
    repeat' (first |refine u1 ?_ |(refine ⟨[ST xa,aj xb,aj xc,BB true],⟨by omega,hat⟩,rfl,?_⟩) |refine u2 ?_ |fail)
    exact ⟨k+1,hlt,(by dsimp only;omega),ai.to 0 rfl ⟨rfl,rfl,rfl,by dsimp only;rw [hs];rfl,cZ (by simp),trivial⟩ (Nat.zero_le _) rfl rfl⟩
   | false =>
    have hs:jd c (k+1)=jd c k+1:=hs
    refine aa (mu:=fun _=>false) ?_
    repeat' (first |refine u1 ?_ |(refine ⟨[ST xa,aj xb,aj xc,BB false],⟨by omega,hat⟩,rfl,?_⟩) |refine u2 ?_ |fail)
    exact ⟨k+1,hlt,(by dsimp only;omega),ai.to 0 rfl ⟨rfl,rfl,rfl,cZ (by rw [hs];simp),cZ (by simp),trivial⟩ (Nat.zero_le _) rfl rfl⟩
  ·have d1:decide ((k:Int) < ((c.aO.map bG).length:Int))=false:=decide_eq_false (by omega)
   have hkn:k=c.aO.length:=by omega
   subst hkn
   refine aa (mu:=fun _=>false) ?_
   repeat' (first |refine u1 ?_ |refine u2 ?_ |fail)
   refine aL.cr (ai.to (l:=[(1,.sl (l.map cO) f),(2,.fl (.int .u16 ((n:Nat):Int))),(3,.pt (aX c) 0),(7,aj (jd c c.aO.length:Int)),(9,aj (0:Nat))]) (hp:=[]) 0 rfl ⟨rfl,rfl,rfl,rfl,rfl,trivial⟩ (Nat.zero_le _) rfl rfl) ?_
   refine aL.loop (fun k:Nat=>k≤l.length∧∀ x ∈ l.take k,x.kind ≠ 3) (fun k=>⟨cz [(1,.sl (l.map cO) f),(2,.fl (.int .u16 ((n:Nat):Int))),(3,.pt (aX c) 0),(7,aj (jd c c.aO.length:Int)),(9,aj (k:Nat))],[],bF.none,false,0⟩) (fun k=>l.length - k) ?_ 0 ⟨Nat.zero_le _,fun x hx=>by cases hx⟩
   rintro k ⟨hk,hk3⟩
   by_cases hlt:k < l.length
   ·have d2:decide ((k:Int) < ((l.map cO).length:Int))=true:=decide_eq_true (by omega)
    have hat:(l.map cO)[((k:Nat):Int).toNat]?=some (cO l[k]):=cM hlt
    have htk:l.take (k+1)=l.take k++[l[k]]:=by rw [List.take_add_one,List.getElem?_eq_getElem hlt];rfl
    generalize l[k]=x at *
    have hnx:x.kind ≠ 3→∀ y ∈ l.take (k+1),y.kind ≠ 3:=by
     intro hx y hy
     rw [htk] at hy
     rcases List.mem_append.1 hy with hy|hy
     ·exact hk3 y hy
     ·rw [List.mem_singleton.1 hy];exact hx
    obtain ⟨xd,xk,xm,xo⟩:=x
    dsimp only at hnx
    cases e3:decide (xk=3) with
    | true =>
     refine aa (mu:=fun _=>false) ?_
     repeat' (first |((with_reducible show ah _ _ _ _ _ _ _ _);refine af.call aw rfl rfl ?_) |refine u1 ?_ |(refine ⟨[aj xd,aj xk,aj xm,aj xo],⟨by omega,hat⟩,rfl,?_⟩) |refine u2 ?_ |fail)
     exact ⟨[_],⟨Fz.deep rfl,trivial⟩,rfl⟩
    | false =>
     refine aa (mu:=fun _=>false) ?_
     repeat' (first |((with_reducible show ah _ _ _ _ _ _ _ _);refine af.call aw rfl rfl ?_) |refine u1 ?_ |(refine ⟨[aj xd,aj xk,aj xm,aj xo],⟨by omega,hat⟩,rfl,?_⟩) |refine u2 ?_ |fail)
     exact ⟨k+1,⟨hlt,hnx (of_decide_eq_false e3)⟩,(by dsimp only;omega),ai.to 0 rfl ⟨rfl,rfl,rfl,rfl,cZ (by simp),trivial⟩ (Nat.zero_le _) rfl rfl⟩
   ·have d2:decide ((k:Int) < ((l.map cO).length:Int))=false:=decide_eq_false (by omega)
    have e:l.take k=l:=List.take_of_length_le (by omega)
    rw [e] at hk3
    have hlaw:=hlaw hk3
    have d3:decide ((((A.map iz).length:Nat):Int)=((c.aO.map bG).length:Int))=true:=decide_eq_true (by rw [ea,em])
    have d4:decide ((0:Int)=0)=true:=rfl
    rw [hD] at o2
    generalize jd c c.aO.length=F at *
    cases e5:decide ((F:Int) < c.least) with
    | true =>
     refine aa (mu:=fun _=>false) ?_
     repeat' (first |refine u1 ?_ |((with_reducible show ah _ _ _ _ _ _ _ _);refine af.call o2 rfl rfl ?_) |((with_reducible show RM.wpOp _ _ (.convert _ _ _) _ _ _);refine Jn rfl hn ?_) |((with_reducible show ah _ _ _ _ _ _ _ _);refine af.call aw rfl rfl ?_) |(refine ⟨_,_,.inl ⟨rfl,rfl⟩,o3,?_⟩) |(refine ⟨_,_,.inl ⟨rfl,rfl⟩,awt,?_⟩) |refine u2 ?_ |fail)
     exact ⟨[_],⟨Fz.deep rfl,trivial⟩,rfl⟩
    | false =>
     have d6:decide (c.least≤(gi A:Int))=true:=decide_eq_true (hlaw (by have:=of_decide_eq_false e5;omega))
     refine aa (mu:=fun _=>false) ?_
     repeat' (first |refine u1 ?_ |((with_reducible show ah _ _ _ _ _ _ _ _);refine af.call o2 rfl rfl ?_) |((with_reducible show RM.wpOp _ _ (.convert _ _ _) _ _ _);refine Jn rfl hn ?_) |((with_reducible show ah _ _ _ _ _ _ _ _);refine af.call aw rfl rfl ?_) |(refine ⟨_,_,.inl ⟨rfl,rfl⟩,o3,?_⟩) |(refine ⟨_,_,.inl ⟨rfl,rfl⟩,awt,?_⟩) |refine u2 ?_ |fail)
     exact ⟨[_],⟨Fz.deep rfl,trivial⟩,rfl⟩
end Go.Proofs.YtlpmfgmldmdggaaGreat
