/-
  Contracts of the program's functions and of the document's. Lemmas alone; their conditions stand in them.
-/
import Derived.Test.YtlpmfgmldmdggaaGreatK13
import Derived.Test.YtlpmfgmldmdggaaGreatA3
import Derived.Test.YtlpmfgmldmdggaaGreatA2
import Derived.Test.YtlpmfgmldmdggaaGreatA4
import Derived.Test.YtlpmfgmldmdggaaGreatK14
import Derived.Test.YtlpmfgmldmdggaaGreatK11
import Derived.Test.YtlpmfgmldmdggaaGreatE1
open Go Go.RM
namespace Go.Proofs.YtlpmfgmldmdggaaGreat
set_option maxRecDepth 100000
structure EvGd (c:ay) (p:List Ev) (x:Ev):Prop where
 kind:kindOk x=true
 qT:0≤x.qT∧x.qT < c.aG.length
 other:0≤x.other∧x.other < c.aG.length
 day:aM p≤x.day∧x.day≤40000
 does:vb c p x=0
theorem evGd {c:ay} {p:List Ev} {x:Ev}:gB c p x=0 ↔ EvGd c p x:=by
 unfold gB
 constructor
 ·intro h
  split at h
  ·cases h
  rename_i h1
  split at h
  ·cases h
  rename_i h2
  split at h
  ·cases h
  rename_i h3
  rw [Ec] at h2
  rw [bD] at h3
  have b2:lP x.qT 0 ((c.aG.length:Int) - 1)=true∧lP x.other 0 ((c.aG.length:Int) - 1)=true:=by simpa using h2
  have b3:lP x.day (aM p) 40000=true:=by simpa using h3
  have b4:=cM.1 b2.1
  have b5:=cM.1 b2.2
  exact ⟨(Bool.not_eq_false _).mp h1,⟨b4.1,by omega⟩,⟨b5.1,by omega⟩,cM.1 b3,h⟩
 ·rintro ⟨h1,h2,h3,h4,h5⟩
  rw [if_neg (by rw [h1];simp),if_neg (by rw [Ec,cM.2 (show 0≤x.qT∧x.qT≤(c.aG.length:Int) - 1 by omega),cM.2 (show 0≤x.other∧x.other≤(c.aG.length:Int) - 1 by omega)];simp),if_neg (by rw [bD,cM.2 h4];simp)]
  exact h5
def SmP (c:ay) (p q:List Ev):Prop:=∀ i,Ay c i p=Ay c i q
theorem SmP.place {c:ay} {p q:List Ev} (h:SmP c p q) (i:Nat):aD c p i=aD c q i:=by rw [←zg,←zg,h i]
theorem SmP.last {c:ay} {p q:List Ev} (h:SmP c p q):aM p=aM q:=by rw [←pW c 0,←pW c 0,h 0]
theorem SmP.snoc {c:ay} {p q:List Ev} (h:SmP c p q) (x:Ev):SmP c (p++[x]) (q++[x]):=fun i=>by rw [xw,xw,h i]
theorem SmP.apps {c:ay}:∀ {p q:List Ev} (_:SmP c p q) (l:List Ev),SmP c (p++l) (q++l)
 | p,q,h,[]=>by rw [List.append_nil,List.append_nil];exact h
 | p,q,h,x :: l=>by
  have:=SmP.apps (h.snoc x) l
  rwa [List.append_assoc,List.append_assoc] at this
theorem SmP.bk {c:ay} {p q:List Ev} (h:SmP c p q) (D:Int) (i:Nat):Cg c p D i=Cg c q D i:=by
 unfold Cg
 rw [h.place i,h.last,h i]
theorem SmP.acc {c:ay} {p q:List Ev} (h:SmP c p q) (hp:iJ p) (hq:iJ q) {D:Int} (hD:aM p≤D) (i:Nat):qd c p i D=qd c q i D:=by
 have h0:=xx hp
 rw [Eg hp (by omega),Eg hq (by omega),Fi fun x hx=>Int.le_trans (Fh hp x hx) hD,Fi fun x hx=>Int.le_trans (Fh hq x hx) (h.last ▸ hD),h.bk]
theorem SmP.bd {c:ay} {p q:List Ev} (h:SmP c p q) (i k:Nat):Dp c p i k=Dp c q i k:=by
 unfold Dp
 apply List.countP_congr
 intro z _
 rw [h.place z]
theorem SmP.event {c:ay} {p q:List Ev} (h:SmP c p q) (hp:iJ p) (hq:iJ q) {x:Ev} (he:gB c p x=0):gB c q x=0:=by
 obtain ⟨h1,h2,h3,h4,h5⟩:=evGd.1 he
 refine evGd.2 ⟨h1,h2,h3,h.last ▸ h4,?_⟩
 unfold vb at h5 ⊢
 rw [←h.place,←h.place,←h.acc hp hq h4.1,←h.bd]
 exact h5
theorem SmP.run {c:ay}:∀ {l:List Ev} {k k':Nat} {p q p':List Ev},SmP c p q→iJ p→iJ q→zj c k p l=.inr p'→zj c k' q l=.inr (q++l)∧iJ (q++l)
 | [],k,k',p,q,p',_,_,hq,_=>by rw [List.append_nil];exact ⟨rfl,hq⟩
 | x :: l,k,k',p,q,p',h,hp,hq,hr=>by
  rw [Ck] at hr ⊢
  split at hr
  ·rename_i h1
   have h2:=h.event hp hq h1
   rw [if_pos h2]
   have:=SmP.run (k':=k'+1) (h.snoc x) (oX hp h1) (oX hq h2) hr
   rwa [List.append_assoc] at this
  ·cases hr
def touchV (a b:Ev):Bool:=decide (a.qT=b.qT) || (decide (a.kind=5) && decide (a.other=b.qT) || (decide (b.kind=5) && decide (b.other=a.qT) || (decide (a.kind=5) && decide (b.kind=5) && decide (a.other=b.other))))
structure NoT (a b:Ev):Prop where
 mm:a.qT ≠ b.qT
 ob:a.kind=5→a.other ≠ b.qT
 oa:b.kind=5→b.other ≠ a.qT
 oo:a.kind=5→b.kind=5→a.other ≠ b.other
theorem NoT.sym {a b:Ev} (h:NoT a b):NoT b a:=⟨Ne.symm h.mm,h.oa,h.ob,fun h1 h2=>Ne.symm (h.oo h2 h1)⟩
theorem moved_man {a b:Ev} (h:NoT a b) (p:Int):eU a b.qT p=p:=by
 unfold eU
 rw [if_neg (fun hh=>h.ob hh.1 hh.2),if_pos h.mm]
theorem moved_other {a b:Ev} (h:NoT a b) (hb:b.kind=5) (p:Int):eU a b.other p=p:=by
 unfold eU
 rw [if_neg (fun hh=>h.oo hh.1 hb hh.2),if_pos (Ne.symm (h.oa hb))]
theorem moved_comm {a b:Ev} (h:NoT a b) (i p:Int):eU b i (eU a i p)=eU a i (eU b i p):=by
 by_cases h1:i=a.qT
 ·subst h1
  rw [moved_man h.sym,moved_man h.sym]
 ·by_cases h2:a.kind=5∧a.other=i
  ·obtain ⟨h2,rfl⟩:=h2
   rw [moved_other h.sym h2,moved_other h.sym h2]
  ·have e:∀ p,eU a i p=p:=fun p=>by
    unfold eU
    rw [if_neg h2,if_pos (Ne.symm h1)]
   rw [e,e]
theorem swp_sm {c:ay} (p:List Ev) {a b:Ev} (h:NoT a b) (hd:a.day=b.day):SmP c (p++[a]++[b]) (p++[b]++[a]):=fun i=>by
 rw [xw,xw,xw,xw]
 unfold Jh
 dsimp only
 rw [moved_comm h,hd,Int.sub_self,pV,pV]
theorem swp_ev {c:ay} {p q:List Ev} {x:Ev} (h:gB c p x=0) (hk:x.kind ≠ 1) (hm:aD c p x.qT.toNat=aD c q x.qT.toNat) (ho:x.kind=5→aD c p x.other.toNat=aD c q x.other.toNat) (hd:aM q≤x.day):gB c q x=0:=by
 obtain ⟨h1,h2,h3,h4,h5⟩:=evGd.1 h
 refine evGd.2 ⟨h1,h2,h3,⟨hd,h4.2⟩,?_⟩
 unfold vb at h5 ⊢
 rw [←hm]
 by_cases e3:x.kind=3
 ·rw [if_pos e3] at h5 ⊢
  exact h5
 rw [if_neg e3] at h5 ⊢
 by_cases e4:aD c p x.qT.toNat ≠ nF x.kind
 ·rw [if_pos e4] at h5
  cases h5
 rw [if_neg e4] at h5 ⊢
 by_cases e5:x.kind=5
 ·rw [if_pos e5] at h5 ⊢
  rw [←ho e5]
  exact h5
 rw [if_neg e5,if_neg hk]
theorem swp_run {c:ay} {p:List Ev} {a b:Ev} (h:NoT a b) (hd:a.day=b.day) (ka:a.kind ≠ 1) (kb:b.kind ≠ 1) (ha:gB c p a=0) (hb:gB c (p++[a]) b=0):gB c p b=0∧gB c (p++[b]) a=0:=by
 obtain ⟨_,ma,oa,da,_⟩:=evGd.1 ha
 obtain ⟨_,mb,ob,db,_⟩:=evGd.1 hb
 have tm:∀ {z:Int},0≤z→((z.toNat:Nat):Int)=z:=fun h=>Int.toNat_of_nonneg h
 constructor
 ·refine swp_ev hb kb ?_ (fun h5=>?_) (by omega)
  ·rw [uz,tm mb.1,moved_man h]
  ·rw [uz,tm ob.1,moved_other h h5]
 ·refine swp_ev ha ka ?_ (fun h5=>?_) (by rw [kz];omega)
  ·rw [uz,tm ma.1,moved_man h.sym]
  ·rw [uz,tm oa.1,moved_other h.sym h5]
structure Sam (c:ay) (l o:List Ev) (D:Int):Prop where
 vd:Vd c o
 zero:∀ i,qd c l i 0=qd c o i 0
 acc:∀ i,qd c l i D=qd c o i D
theorem until_snoc_gt {D:Int}:∀ {p:List Ev} {x:Ev} (l:List Ev),D < x.day→cE D (p++x :: l)=cE D p
 | [],x,l,h=>by
  show (x :: l).takeWhile _=_
  rw [List.takeWhile_cons,if_neg (by simpa using h)]
  rfl
 | y :: p,x,l,h=>by
  unfold cE
  rw [List.cons_append,List.takeWhile_cons,List.takeWhile_cons]
  split
  ·have:=until_snoc_gt (p:=p) l h
   unfold cE at this
   rw [this]
  ·rfl
theorem until_app_le {D:Int} {p:List Ev} (l:List Ev) (h:∀ x ∈ p,x.day≤D):cE D (p++l)=p++cE D l:=by
 unfold cE
 rw [List.takeWhile_append_of_pos fun x hx=>decide_eq_true (h x hx)]
theorem swp_law {c:ay} {p r:List Ev} {a b:Ev} (hv:Vd c (p++a :: b :: r)) (h:NoT a b) (hd:a.day=b.day) (ka:a.kind ≠ 1) (kb:b.kind ≠ 1) {D:Int} (hD:0≤D):Sam c (p++a :: b :: r) (p++b :: a :: r) D:=by
 have hrun:=hv.run
 obtain ⟨q,hq⟩:=Cj (n:=p.length) hrun
 rw [List.take_left'  rfl] at hq
 obtain ⟨hq1,hp⟩:=ve jF hq
 rw [List.nil_append] at hq1
 subst hq1
 rw [rvG_append _ hq,Ck] at hrun
 split at hrun
 case isFalse=>cases hrun
 rename_i ha
 rw [Ck] at hrun
 split at hrun
 case isFalse=>cases hrun
 rename_i hb
 obtain ⟨hb2,ha2⟩:=swp_run h hd ka kb ha hb
 have hsm:=swp_sm (c:=c) q h hd
 have m1:=oX (oX hp ha) hb
 have m2:=oX (oX hp hb2) ha2
 obtain ⟨r1,r2⟩:=SmP.run (k':=0+q.length+1+1) hsm m1 m2 hrun
 have e:q++[b]++[a]++r=q++b :: a :: r:=by simp
 have e0:q++[a]++[b]++r=q++a :: b :: r:=by simp
 rw [e] at r1 r2
 have hv2:Vd c (q++b :: a :: r):=by
  refine ⟨hv.good,by have:=hv.len;simp at this ⊢;omega,?_,r2⟩
  rw [rvG_append _ hq,Ck,if_pos hb2,Ck,if_pos ha2]
  exact r1
 have hall:∀ E:Int,0≤E→∀ i,qd c (q++a :: b :: r) i E=qd c (q++b :: a :: r) i E:=fun E hE i=>by
  rw [Eg hv.mono hE,Eg r2 hE]
  by_cases hda:E < a.day
  ·rw [until_snoc_gt _ hda,until_snoc_gt _ (hd ▸ hda)]
  ·rw [←e,←e0,until_app_le,until_app_le]
   ·exact (hsm.apps _).bk E i
   ·intro x hx
    have:=Fh m2 x hx
    rw [kz] at this
    omega
   ·intro x hx
    have:=Fh m1 x hx
    rw [kz] at this
    omega
 exact ⟨hv2,hall 0 (Int.le_refl 0),hall D hD⟩
theorem until_until {E D:Int} (h:E≤D):∀ l:List Ev,cE E (cE D l)=cE E l
 | []=>rfl
 | x :: l=>by
  unfold cE
  rw [List.takeWhile_cons]
  by_cases h1:x.day≤D
  ·rw [if_pos (decide_eq_true h1),List.takeWhile_cons,List.takeWhile_cons]
   have:=until_until h l
   unfold cE at this
   rw [this]
  ·rw [if_neg (by simpa using h1),List.takeWhile_cons,if_neg (by simp;omega)]
   rfl
theorem past_law {c:ay} {l:List Ev} (hv:Vd c l) {D:Int} (hD:0≤D):Sam c l (cE D l) D:=by
 have hu:=vd_until hv D
 refine ⟨hu,fun i=>?_,fun i=>(accV_until hv hD i).symm⟩
 rw [Eg hv.mono (Int.le_refl 0),Eg hu.mono (Int.le_refl 0),until_until hD]
abbrev swX (D:Int) (m n:Nat):Ev:=⟨D,5,(m:Int),(n:Int)⟩
theorem swX_ev {c:ay} {p:List Ev} {D:Int} {m n:Nat} (hm:m < c.aG.length) (hn:n < c.aG.length) (hmn:m ≠ n) (hD:aM p≤D∧D≤40000) (h0:aD c p m=0) (h1:aD c p n=1):gB c p (swX D m n)=0:=by
 refine evGd.2 ⟨?_,⟨Int.natCast_nonneg m,by show (m:Int) < _;omega⟩,⟨Int.natCast_nonneg n,by show (n:Int) < _;omega⟩,hD,?_⟩
 ·unfold kindOk
  rw [bD,decide_eq_false (show ¬ ((swX D m n).other=(swX D m n).qT) by show ¬ ((n:Int)=m);omega)]
  rfl
 ·rw [KX,h0,h1]
  rfl
theorem twice_law {c:ay} {l:List Ev} (hv:Vd c l) {D:Int} (hD:0≤D∧D≤40000) (hd:∀ x ∈ l,x.day≤D) (h18:l.length≤18) {m n:Nat} (hm:m < c.aG.length) (hn:n < c.aG.length) (hmn:m ≠ n) (h0:aD c l m=0) (h1:aD c l n=1) {E:Int} (hE:D≤E) :
  Sam c l (l++[swX D m n,swX D n m]) E:=by
 have hmo:=hv.mono
 have hlast:aM l≤D:=by
  have:=Dq (D:=D) (l:=l) hD.1 (Nat.le_refl _)
  rwa [nG,Fi hd] at this
 have e1:=swX_ev hm hn hmn ⟨hlast,hD.2⟩ h0 h1
 have m1:=oX hmo e1
 have pn:aD c (l++[swX D m n]) n=0:=by rw [uz,IL,if_pos rfl]
 have pm:aD c (l++[swX D m n]) m=1:=by rw [uz,IL,if_neg hmn,if_pos rfl]
 have e2:=swX_ev (p:=l++[swX D m n]) hn hm (Ne.symm hmn) ⟨by rw [kz];exact Int.le_refl _,hD.2⟩ pn pm
 have m2:=oX m1 e2
 have ee:l++[swX D m n]++[swX D n m]=l++[swX D m n,swX D n m]:=by simp
 rw [ee] at m2
 have hv2:Vd c (l++[swX D m n,swX D n m]):=by
  refine ⟨hv.good,by simp;omega,?_,m2⟩
  rw [rvG_append _ hv.run,Ck,if_pos e1,Ck,if_pos e2,IM,ee]
 have hst:∀ i,Ay c i (l++[swX D m n,swX D n m])=(aD c l i,D,jk (aD c l i) (D - aM l) (Ay c i l).2.2):=fun i=>by
  rw [←ee,xw,xw]
  unfold Jh
  dsimp only
  rw [zg,pW,Int.sub_self,pV,IL,IL]
  by_cases him:i=m
  ·subst him
   rw [if_pos rfl,h0]
  ·by_cases hin:i=n
   ·subst hin
    rw [if_neg him,if_pos rfl,h1]
   ·rw [if_neg him,if_neg hin,if_neg hin,if_neg him]
 have hbig:∀ F,D≤F→∀ i,qd c l i F=qd c (l++[swX D m n,swX D n m]) i F:=fun F hF i=>by
  have hu2:∀ x ∈ l++[swX D m n,swX D n m],x.day≤F:=fun x hx=>by
   rcases List.mem_append.1 hx with hx|hx
   ·have:=hd x hx
    omega
   ·rcases List.mem_cons.1 hx with rfl|hx
    ·exact hF
    ·rw [List.mem_singleton.1 hx]
     exact hF
  rw [Eg hmo (by omega),Eg m2 (by omega),Fi fun x hx=>Int.le_trans (hd x hx) hF,Fi hu2]
  unfold Cg
  have hp:=zg c i (l++[swX D m n,swX D n m])
  have hl:=pW c i (l++[swX D m n,swX D n m])
  rw [hst] at hp hl
  dsimp only at hp hl
  rw [hst,←hp,←hl]
  dsimp only
  rw [addD_add,show D - aM l+(F - D)=F - aM l by omega]
 refine ⟨hv2,fun i=>?_,hbig E hE⟩
 by_cases hz:D=0
 ·exact hbig 0 (by omega) i
 ·rw [Eg hmo (Int.le_refl 0),Eg m2 (Int.le_refl 0),until_snoc_gt _ (show 0 < (swX D m n).day by show 0 < D;omega)]
end Go.Proofs.YtlpmfgmldmdggaaGreat
open Go Go.RM
namespace Go.Proofs.YtlpmfgmldmdggaaGreat
set_option maxRecDepth 100000
set_option maxHeartbeats 4000000
def K4 (P:List Ev):List AV:=(P.map cZ).flatten
theorem evF_len:∀ P:List Ev,(K4 P).length=P.length * 4
 | []=>rfl
 | x :: P=>by
  show (cZ x++K4 P).length=_
  have h4:(cZ x).length=4:=rfl
  rw [List.length_append,h4,evF_len P,List.length_cons]
  omega
theorem evF_one:∀ P:List Ev,(K4 P).all AV.one=true
 | []=>rfl
 | _ :: P=>evF_one P
theorem evF_deep:∀ P:List Ev,de (K4 P)=true
 | []=>rfl
 | _ :: P=>evF_deep P
end Go.Proofs.YtlpmfgmldmdggaaGreat
namespace Go.RM
open Go
end Go.RM
namespace Go.RM
open Go
section
variable {T : bh} {own : Bool} {fr : Nat → AV} {hp : List AB} {K : AV → List AB → Prop} {t : TypeId} {s by' cy : Nat} {z : Option Value} {agg : Bool} {bO : List (Nat × Nat)}
end
end Go.RM
namespace Go.RM
open Go
inductive As (s st:aR):Prop
 | is (h:aj s st)
 | no (h:False)
theorem As.bx {s st:aR}:As s st→aj s st
 | .is h=>h
 | .no h=>h.elim
theorem cutAt {T:bh} {tab:List XE} {one:Bool} {a b:Code} {st st':aR} {K:Exit→aR→Prop} (h1:aC T tab one a st (yc (fun s=>As s st') K)) (h2:aC T tab one b st' K):aC T tab one (.seq a b) st K :=
 .seq (h1.mono fun e s h=>by cases e <;> first|exact .bx h.bx h2|exact h)
end Go.RM
namespace Go.RM
open Go
inductive AsP (s st:aR) (P:Prop):Prop
 | is (h:aj s st) (p:P)
 | no (h:False)
end Go.RM
open Go Go.RM
namespace Go.Proofs.YtlpmfgmldmdggaaGreat
set_option maxRecDepth 100000
set_option maxHeartbeats 4000000
theorem sam_at {c:ay} {l o:List Ev} {D:Int} (hv:Vd c l) (hs:Sam c l o D) (hD:0≤D):Dk c l D=Dk c o D∧Dk c l 0=Dk c o 0:=by
 rw [Ji hv hD,Ji hs.vd hD,Ji hv (Int.le_refl 0),Ji hs.vd (Int.le_refl 0)]
 constructor
 ·congr 1
  funext i
  exact hs.acc i
 ·congr 1
  funext i
  exact hs.zero i
theorem same43_c (one:Bool) (c:ay) (h:c.Ok) (l o:List Ev) (f g:Bool) (hl:l.length≤maxLen) (ho:o.length≤maxLen) (hd:∀ x ∈ l,x.day≤later) (hdo:∀ x ∈ o,x.day≤later) (hcl:(va c l).2=0) (hco:(va c o).2=0) (D:Int) (hD:0≤D∧D≤40000) (hs:Sam c l o D) :
  Pu one 43 [.ag (aF c),.sl (l.map cZ) f,.sl (o.map cZ) g,ah D] (BB true):=by
 have hv:=J2 hd hcl
 have on1:=vd_on hcl hD
 have on2:=vd_on hco hD
 have z1:=vd_on hcl (D:=0) ⟨by omega,by omega⟩
 have z2:=vd_on hco (D:=0) ⟨by omega,by omega⟩
 obtain ⟨e1,e2⟩:=sam_at hv hs hD.1
 have o1:=Dl one c h l f hl hd D
 have o2:=Dl one c h o g ho hdo D
 have o3:=pay_c one c h l f hl hd 0 D
 have o4:=pay_c one c h o g ho hdo 0 D
 have p1:payE c l 0 D=0:=by unfold payE;rw [if_neg (by rw [z1];simp),if_neg (by rw [on1];simp),if_neg (by omega)]
 have p2:payE c o 0 D=0:=by unfold payE;rw [if_neg (by rw [z2];simp),if_neg (by rw [on2];simp),if_neg (by omega)]
 have hn:=payV_len (c:=c) (F:=0) (G:=D) hd
 have hm:=HB (c:=c) hd D
 unfold yf at o1 o2 hm
 unfold payV at o3 o4 hn
 rw [if_pos on1,on1] at o1
 rw [if_pos on1] at hm
 rw [if_pos on2,on2,←e1] at o2
 rw [if_pos p1,p1] at o3
 rw [if_pos p1] at hn
 rw [if_pos p2,p2,←e1,←e2] at o4
 generalize subK (duesV c (Dk c l D)) (duesV c (Dk c l 0)) c.aG.length=N at *
 generalize Dk c l D=A at *
 have s1:=Ka one A false false (by simp [maxLen];omega)
 have s2:=zl one N false false (by simp [maxLen];omega)
 have d0:decide ((0:Int)=0)=true:=rfl
 refine af.body (fn:=Tryz.f43) rfl rfl rfl rfl ?_
 refine aa (mu:=fun _=>false) ?_
 repeat' (first |refine u1 ?_ |((with_reducible show ai _ _ _ _ _ _ _ _);refine af.call o1 rfl rfl ?_) |((with_reducible show ai _ _ _ _ _ _ _ _);refine af.call o2 rfl rfl ?_) |((with_reducible show ai _ _ _ _ _ _ _ _);refine af.call o3 rfl rfl ?_) |((with_reducible show ai _ _ _ _ _ _ _ _);refine af.call o4 rfl rfl ?_) |((with_reducible show ai _ _ _ _ _ _ _ _);refine af.call s1 rfl rfl ?_) |((with_reducible show ai _ _ _ _ _ _ _ _);refine af.call s2 rfl rfl ?_) |refine u2 ?_ |fail)
 exact ⟨[_],⟨Fz.deep rfl,trivial⟩,rfl⟩
section
variable {own : Bool} {fr : Nat → AV} {hp : List AB} {K : AV → List AB → Prop} {x : Operand} {n : Nat}
theorem cw8 (hx:aS fr x=.fl (.int .u8 ((n:Nat):Int))) (h:n≤255) (k:K (ah (n:Nat)) hp):RM.wpOp TT own (.convert 5 3 x) fr hp K:=by
 show F9 TT 5 3 (aS fr x) hp K
 rw [hx]
 have:cU (au TT.P (convert 5 3 (.int .u8 ((n:Nat):Int))))=some (.int .i64 (IntKind.i64.wrap ((n:Nat):Int)),.none):=rfl
 rw [IntWalk.i64_in ((n:Nat):Int) (by omega)] at this
 exact ⟨_,rfl,_,this,rfl,k⟩
end
abbrev U8 (n:Nat):AV:=.fl (.int .u8 ((n:Nat):Int))
abbrev eTn (a d m n:Nat):List AV:=[U8 a,.fl (.int .u16 ((d:Nat):Int)),U8 m,U8 n]
theorem ev_gv {v cc n:Nat} {P:List Ev} (h:P.length=n):Gv 0 v (K4 P) (.cS 0 v 0 n cc) (.sl (P.map cZ) false) :=
 .row 4 (by rw [evF_len];omega) (by rw [List.length_map];exact h) (fun el hel=>by obtain ⟨x,_,rfl⟩:=List.mem_map.1 hel;rfl) (by rw [List.drop_zero,List.take_of_length_le (by rw [evF_len];omega)];rfl) (fun h=>Bool.noConfusion h)
theorem evF_app (P Q:List Ev):K4 (P++Q)=K4 P++K4 Q:=by
 unfold K4
 rw [List.map_append,List.flatten_append]
theorem evcut (l:List Ev) (a b:Nat):((l.map cZ).drop a).take (b - a)=((l.drop a).take (b - a)).map cZ:=by rw [←List.map_drop,←List.map_take]
theorem evcut_len (l:List Ev) (a b:Nat):∀ el ∈ ((l.map cZ).drop a).take (b - a),el.length=4:=by rw [evcut];exact Dn _
theorem evcut_one (l:List Ev) (a b:Nat):(((l.map cZ).drop a).take (b - a)).flatten.all AV.one=true:=by rw [evcut];exact evF_one _
end Go.Proofs.YtlpmfgmldmdggaaGreat
open Go Go.RM
namespace Go.Proofs.YtlpmfgmldmdggaaGreat
set_option maxRecDepth 100000
set_option maxHeartbeats 4000000
end Go.Proofs.YtlpmfgmldmdggaaGreat
open Go Go.RM
namespace Go.Proofs.YtlpmfgmldmdggaaGreat
set_option maxRecDepth 100000
abbrev sh8:Sh:=.int .u8
abbrev shTn:Sh:=.cons sh8 (.cons sh16 (.cons (.arr 2 sh8) .nil))
theorem tv8 {l:List AV} (h:TV sh8 l):∃ n:Nat,n≤255∧l=[.fl (.int .u8 ((n:Nat):Int))]:=by
 obtain ⟨n,hn,rfl⟩:=tvK h
 have h1:IntKind.u8.min=0:=rfl
 have h2:IntKind.u8.max=255:=rfl
 simp [Lit.wf] at hn
 refine ⟨n.toNat,by omega,?_⟩
 rw [Int.toNat_of_nonneg (by omega)]
theorem tvTn {l:List AV} (h:TV shTn l):∃ a d m n:Nat,(a≤255∧d≤65535∧m≤255∧n≤255)∧l=eTn a d m n:=by
 obtain ⟨_,_,h1,k1,rfl⟩:=Cv h
 obtain ⟨_,_,h2,k2,rfl⟩:=Cv k1
 obtain ⟨_,_,h3,k3,rfl⟩:=Cv k2
 obtain rfl:=K8 k3
 obtain ⟨a,ha,rfl⟩:=tv8 h1
 obtain ⟨d,hd,rfl⟩:=tv16 h2
 obtain ⟨els,hl,he,rfl⟩:=tvA h3
 match els,hl with
 | [x,y],_ =>
  obtain ⟨m,hm,rfl⟩:=tv8 (he x (by simp))
  obtain ⟨n,hn,rfl⟩:=tv8 (he y (by simp))
  exact ⟨a,d,m,n,⟨ha,hd,hm,hn⟩,rfl⟩
end Go.Proofs.YtlpmfgmldmdggaaGreat
open Go Go.RM
namespace Go.Proofs.YtlpmfgmldmdggaaGreat
set_option maxRecDepth 100000
set_option maxHeartbeats 4000000
def fs1:Code→Code
 | .seq a _=>a
 | x=>x
def tbC:Code→Code
 | .cond _ a _=>a
 | x=>x
noncomputable def t11m:Code:=Ar (Ar (Ar (Ar (Ar (Tryz.f11.body.getD .skip)))))
noncomputable def t11t:Code:=Ar t11m
noncomputable def x11:Code:=tbC (Ar (fs1 t11m))
noncomputable def x11b:Code:=Ar (Ar x11)
noncomputable def x11c:Code:=Ar x11b
theorem touch_c (one:Bool) (c:ay) (l P:List Ev) (f f':Bool) (D:Int) (q0 q1 q2 q3:Nat) (i:Nat) (da ka ma oa db kb mb ob:Int) {K:Exit→aR→Prop} (hK:aC TT TB one x11c ⟨bM [(1,.sl (l.map cZ) f),(3,.pt (aF c) 0),(5,.pt (eTn q0 q1 q2 q3) 0),(7,ah D),(8,.sl (P.map cZ) f'),(9,ah (i:Nat)),(10,.pt [ah da,ah ka,ah ma,ah oa] 0),(11,.pt [ah db,ah kb,ah mb,ah ob] 0),(12,BB (touchV ⟨da,ka,ma,oa⟩ ⟨db,kb,mb,ob⟩))],[],bw.none,false,0⟩ K):aC TT TB one x11b ⟨bM [(1,.sl (l.map cZ) f),(3,.pt (aF c) 0),(5,.pt (eTn q0 q1 q2 q3) 0),(7,ah D),(8,.sl (P.map cZ) f'),(9,ah (i:Nat)),(10,.pt [ah da,ah ka,ah ma,ah oa] 0),(11,.pt [ah db,ah kb,ah mb,ah ob] 0)],[],bw.none,false,0⟩ K:=by
 show aC TT TB one (.seq (.region _ _ false) x11c) _ _
 refine RM.cutAt ?_ hK
 unfold touchV
 dsimp only
 cases d1:decide (ma=mb) with
 | true =>
  refine aa (mu:=fun _=>false) ?_
  repeat' (first |refine u1 ?_ |refine u2 ?_ |fail)
  exact .is (aj.to (l:=[(1,.sl (l.map cZ) f),(3,.pt (aF c) 0),(5,.pt (eTn q0 q1 q2 q3) 0),(7,ah D),(8,.sl (P.map cZ) f'),(9,ah (i:Nat)),(10,.pt [ah da,ah ka,ah ma,ah oa] 0),(11,.pt [ah db,ah kb,ah mb,ah ob] 0),(12,BB true)]) (hp:=[]) 0 rfl ⟨rfl,rfl,rfl,rfl,rfl,rfl,rfl,rfl,rfl,trivial⟩ (Nat.zero_le _) rfl rfl)
 | false =>
  cases d2:decide (ka=5) with
  | true =>
   cases d3:decide (oa=mb) with
   | true =>
    refine aa (mu:=fun _=>false) ?_
    repeat' (first |refine u1 ?_ |refine u2 ?_ |fail)
    exact .is (aj.to (l:=[(1,.sl (l.map cZ) f),(3,.pt (aF c) 0),(5,.pt (eTn q0 q1 q2 q3) 0),(7,ah D),(8,.sl (P.map cZ) f'),(9,ah (i:Nat)),(10,.pt [ah da,ah ka,ah ma,ah oa] 0),(11,.pt [ah db,ah kb,ah mb,ah ob] 0),(12,BB true)]) (hp:=[]) 0 rfl ⟨rfl,rfl,rfl,rfl,rfl,rfl,rfl,rfl,rfl,trivial⟩ (Nat.zero_le _) rfl rfl)
   | false =>
    cases d4:decide (kb=5) with
    | true =>
     cases d5:decide (ob=ma) with
     | true =>
      refine aa (mu:=fun _=>false) ?_
      repeat' (first |refine u1 ?_ |refine u2 ?_ |fail)
      exact .is (aj.to (l:=[(1,.sl (l.map cZ) f),(3,.pt (aF c) 0),(5,.pt (eTn q0 q1 q2 q3) 0),(7,ah D),(8,.sl (P.map cZ) f'),(9,ah (i:Nat)),(10,.pt [ah da,ah ka,ah ma,ah oa] 0),(11,.pt [ah db,ah kb,ah mb,ah ob] 0),(12,BB true)]) (hp:=[]) 0 rfl ⟨rfl,rfl,rfl,rfl,rfl,rfl,rfl,rfl,rfl,trivial⟩ (Nat.zero_le _) rfl rfl)
     | false =>
      refine aa (mu:=fun _=>false) ?_
      repeat' (first |refine u1 ?_ |refine u2 ?_ |fail)
      exact .is (aj.to (l:=[(1,.sl (l.map cZ) f),(3,.pt (aF c) 0),(5,.pt (eTn q0 q1 q2 q3) 0),(7,ah D),(8,.sl (P.map cZ) f'),(9,ah (i:Nat)),(10,.pt [ah da,ah ka,ah ma,ah oa] 0),(11,.pt [ah db,ah kb,ah mb,ah ob] 0),(12,BB (decide (oa=ob)))]) (hp:=[]) 0 rfl ⟨rfl,rfl,rfl,rfl,rfl,rfl,rfl,rfl,rfl,trivial⟩ (Nat.zero_le _) rfl rfl)
    | false =>
     refine aa (mu:=fun _=>false) ?_
     repeat' (first |refine u1 ?_ |refine u2 ?_ |fail)
     exact .is (aj.to (l:=[(1,.sl (l.map cZ) f),(3,.pt (aF c) 0),(5,.pt (eTn q0 q1 q2 q3) 0),(7,ah D),(8,.sl (P.map cZ) f'),(9,ah (i:Nat)),(10,.pt [ah da,ah ka,ah ma,ah oa] 0),(11,.pt [ah db,ah kb,ah mb,ah ob] 0),(12,BB false)]) (hp:=[]) 0 rfl ⟨rfl,rfl,rfl,rfl,rfl,rfl,rfl,rfl,rfl,trivial⟩ (Nat.zero_le _) rfl rfl)
  | false =>
   cases d4:decide (kb=5) with
   | true =>
    cases d5:decide (ob=ma) with
    | true =>
     refine aa (mu:=fun _=>false) ?_
     repeat' (first |refine u1 ?_ |refine u2 ?_ |fail)
     exact .is (aj.to (l:=[(1,.sl (l.map cZ) f),(3,.pt (aF c) 0),(5,.pt (eTn q0 q1 q2 q3) 0),(7,ah D),(8,.sl (P.map cZ) f'),(9,ah (i:Nat)),(10,.pt [ah da,ah ka,ah ma,ah oa] 0),(11,.pt [ah db,ah kb,ah mb,ah ob] 0),(12,BB true)]) (hp:=[]) 0 rfl ⟨rfl,rfl,rfl,rfl,rfl,rfl,rfl,rfl,rfl,trivial⟩ (Nat.zero_le _) rfl rfl)
    | false =>
     refine aa (mu:=fun _=>false) ?_
     repeat' (first |refine u1 ?_ |refine u2 ?_ |fail)
     exact .is (aj.to (l:=[(1,.sl (l.map cZ) f),(3,.pt (aF c) 0),(5,.pt (eTn q0 q1 q2 q3) 0),(7,ah D),(8,.sl (P.map cZ) f'),(9,ah (i:Nat)),(10,.pt [ah da,ah ka,ah ma,ah oa] 0),(11,.pt [ah db,ah kb,ah mb,ah ob] 0),(12,BB false)]) (hp:=[]) 0 rfl ⟨rfl,rfl,rfl,rfl,rfl,rfl,rfl,rfl,rfl,trivial⟩ (Nat.zero_le _) rfl rfl)
   | false =>
    refine aa (mu:=fun _=>false) ?_
    repeat' (first |refine u1 ?_ |refine u2 ?_ |fail)
    exact .is (aj.to (l:=[(1,.sl (l.map cZ) f),(3,.pt (aF c) 0),(5,.pt (eTn q0 q1 q2 q3) 0),(7,ah D),(8,.sl (P.map cZ) f'),(9,ah (i:Nat)),(10,.pt [ah da,ah ka,ah ma,ah oa] 0),(11,.pt [ah db,ah kb,ah mb,ah ob] 0),(12,BB false)]) (hp:=[]) 0 rfl ⟨rfl,rfl,rfl,rfl,rfl,rfl,rfl,rfl,rfl,trivial⟩ (Nat.zero_le _) rfl rfl)
end Go.Proofs.YtlpmfgmldmdggaaGreat
