/-
  Contracts of the program's functions and of the document's. Lemmas alone; their conditions stand in them.
-/
import Derived.Test.YtpeogffeoehboaaDoorK13
open Go Go.RM
namespace Go.Proofs.YtpeogffeoehboaaDoor
set_option maxRecDepth 100000
set_option maxHeartbeats 4000000
noncomputable def BS:Code→Code
 | .seq _ b=>b
 | c=>c
noncomputable def Pk:Code:=BS (BS (BS (BS (BS (BS (BS (BS (Tryd.f5.body.getD .skip))))))))
theorem E7 {s:ak} {p:List Order} {full:Bool} {l:List Int} {day need:Int} {f:Nat} (p8:p.length≤8) (l8:l.length≤8) (hin:∀ (i:Nat) (hi:i < l.length),0≤l[i]∧l[i] < (p.length:Nat))
  (hasc:∀ (i j:Nat) (hi:i < l.length) (hj:j < l.length),i < j→l[i] < l[j]) (hst:∀ (i:Nat) (hi:i < l.length),rowAt f (l[i].toNat+1)=rowAt f l[i].toNat+1) (h3:∀ m,m≤p.length→rowAt f m≤s.row)
  (dl:decide (((ints l).length:Int)≤s.fail)=true) (o5:Pu false 20 [.ag (ay s),.sl (p.map ai) full,.sl (ints l) false] (.tp [aA day,aA need,aA 0])) :
  aB TT TB false Pk ⟨aU [(1,.sl (p.map ai) full),(3,.pt (ay s) 0),(7,.sl (ints l) false),(8,aA day),(9,aA need)],[],bP.none,false,0⟩ (sK TT Tryd.f5.results.toList (BB true)):=by
 have aw:=BC false
 have hrb:=sU f
 have ep:((p.map ai).length:Int)=p.length:=by simp
 have el:((ints l).length:Int)=l.length:=by simp
 have z0:decide ((0:Int)=0)=true:=by decide
 have dd:decide (day=day)=true:=decide_eq_true rfl
 have dn:decide (need=need)=true:=decide_eq_true rfl
 refine RM.cm (mu:=fun _=>false) ?_
 repeat' (first |refine u1 ?_ |refine u2 ?_ |fail)
 refine RM.cutAt (st':=⟨aU [(1,.sl (p.map ai) full),(3,.pt (ay s) 0),(7,.sl (ints l) false),(8,aA day),(9,aA need)],[],bP.none,false,0⟩) ?_ ?_
 ·refine RM.cm (mu:=fun _=>false) ?_
  repeat' (first |refine u1 ?_ |refine u2 ?_ |fail)
  refine aB.block ?_
  refine aB.aL (au.to (l:=[(1,.sl (p.map ai) full),(3,.pt (ay s) 0),(7,.sl (ints l) false),(8,aA day),(9,aA need),(15,aA 0),(16,aA (0:Nat))]) (hp:=[]) 0 rfl ⟨rfl,rfl,rfl,rfl,rfl,rfl,rfl,trivial⟩ (Nat.zero_le _) rfl rfl) ?_
  refine aB.loop (fun x:Nat × Int=>x.1≤l.length∧(0≤x.2∧x.2≤8)∧(x.1=0→x.2=0)∧∀ j,j+1=x.1→∀ hj:j < l.length,x.2≤rowAt f (l[j].toNat+1)) (fun x=>⟨aU [(1,.sl (p.map ai) full),(3,.pt (ay s) 0),(7,.sl (ints l) false),(8,aA day),(9,aA need),(15,aA x.2),(16,aA (x.1:Nat))],[],bP.none,false,0⟩) (fun x=>l.length - x.1) ?_ (0,0) ⟨Nat.zero_le _,⟨Int.le_refl _,by decide⟩,fun _=>rfl,fun j hj=>absurd hj (by simp)⟩
  rintro ⟨k,r⟩ ⟨hk,hr,hr0,hrow⟩
  dsimp only at hk hr hr0 hrow
  show aB _ _ _ _ ⟨aU [(1,.sl (p.map ai) full),(3,.pt (ay s) 0),(7,.sl (ints l) false),(8,aA day),(9,aA need),(15,aA r),(16,aA (k:Nat))],[],bP.none,false,0⟩ _
  by_cases hlt:k < l.length
  ·have d1:decide ((k:Int) < ((ints l).length:Int))=true:=decide_eq_true (by omega)
   have hx:=hin k hlt
   have hs1:=hst k hlt
   have hm:=h3 (l[k].toNat+1) (by omega)
   have hb1:=hrb l[k].toNat
   have hb2:=hrb (l[k].toNat+1)
   have hat:(ints l)[((k:Nat):Int).toNat]?=some (eI l[k]):=bC hlt
   have d3:decide (l[k] < 0)=false:=decide_eq_false (by omega)
   have d4:decide (((p.map ai).length:Int)≤l[k])=false:=decide_eq_false (by omega)
   cases k with
   | zero =>
    have hr:=hr0 rfl
    subst hr
    have hrow':(1:Int)≤rowAt f (l[0].toNat+1):=by omega
    have d2:decide ((0:Int) < ((0:Nat):Int))=false:=by decide
    have d5:decide (s.row < 0+1)=false:=decide_eq_false (by omega)
    clear hrow
    have hinv:∀ j,j+1=0+1→∀ hj:j < l.length,(0+1:Int)≤rowAt f (l[j].toNat+1):=fun j hj hjl=>by
     obtain rfl:j=0:=by omega
     omega
    generalize l[0]=x at hat d3 d4 hx
    clear hs1 hm hb1 hb2 hrow'
    refine aa (mu:=fun _=>false) ?_
    repeat' (first |((with_reducible show RM.wpOp _ _ (.indexAddr _ _ _) _ _ _);refine ⟨eI x,⟨by omega,hat⟩,rfl,?_⟩) |refine u1 ?_ |((with_reducible show RM.wpOp _ _ (.indexAddr _ _ _) _ _ _);refine ⟨eI x,⟨by omega,hat⟩,rfl,?_⟩) |refine u2 ?_ |fail)
    exact ⟨(0+1,(0+1:Int)),⟨hlt,⟨by dsimp only;omega,by dsimp only;omega⟩,fun h=>absurd h (by simp),hinv⟩,(by dsimp only;omega),au.to 0 rfl ⟨rfl,rfl,rfl,rfl,rfl,rfl,bu (by simp),trivial⟩ (Nat.zero_le _) rfl rfl⟩
   | succ j =>
    have hj:j < l.length:=by omega
    have hy:=hin j hj
    have hlt2:=hasc j (j+1) hj hlt (Nat.lt_succ_self _)
    have hrj:=hrow j rfl hj
    have d2:decide ((0:Int) < ((j+1:Nat):Int))=true:=decide_eq_true (by omega)
    have hat2:(ints l)[(((j+1:Nat):Int) - 1).toNat]?=some (eI l[j]):=by
     rw [show ((j+1:Nat):Int) - 1=(j:Int) by omega]
     exact bC hj
    have d6:decide (l[j+1]≤l[j])=false:=decide_eq_false (by omega)
    by_cases he:l[j+1]=l[j]+1
    ·have d7:(!decide (l[j+1]=l[j]+1))=false:=by rw [decide_eq_true he];rfl
     have er:l[j].toNat+1=l[j+1].toNat:=by omega
     rw [er] at hrj
     have d5:decide (s.row < r+1)=false:=decide_eq_false (by omega)
     have hr8:r+1≤8:=by omega
     have hinv:∀ i,i+1=j+1+1→∀ hi:i < l.length,r+1≤rowAt f (l[i].toNat+1):=fun i hi hil=>by
      obtain rfl:i=j+1:=by omega
      omega
     generalize l[j+1]=x at hat d3 d4 hx d6 d7
     generalize l[j]=y at hat2 hy d6 d7
     clear hs1 hm hb1 hb2 hrj er he hlt2 hrow
     refine aa (mu:=fun _=>false) ?_
     repeat' (first |((with_reducible show RM.wpOp _ _ (.indexAddr _ _ _) _ _ _);refine ⟨eI x,⟨by omega,hat⟩,rfl,?_⟩) |((with_reducible show RM.wpOp _ _ (.indexAddr _ _ _) _ _ _);refine ⟨eI y,⟨by omega,hat2⟩,rfl,?_⟩) |refine u1 ?_ |((with_reducible show RM.wpOp _ _ (.indexAddr _ _ _) _ _ _);refine ⟨eI x,⟨by omega,hat⟩,rfl,?_⟩) |((with_reducible show RM.wpOp _ _ (.indexAddr _ _ _) _ _ _);refine ⟨eI y,⟨by omega,hat2⟩,rfl,?_⟩) |refine u2 ?_ |fail)
     exact ⟨((j+1)+1,(r+1)),⟨hlt,⟨by dsimp only;omega,by dsimp only;omega⟩,fun h=>absurd h (by simp),hinv⟩,(by dsimp only;omega),au.to 0 rfl ⟨rfl,rfl,rfl,rfl,rfl,rfl,bu (by simp),trivial⟩ (Nat.zero_le _) rfl rfl⟩
    ·have d7:(!decide (l[j+1]=l[j]+1))=true:=by rw [decide_eq_false he];rfl
     have d5:decide (s.row < 1)=false:=decide_eq_false (by omega)
     have hinv:∀ i,i+1=j+1+1→∀ hi:i < l.length,(1:Int)≤rowAt f (l[i].toNat+1):=fun i hi hil=>by
      obtain rfl:i=j+1:=by omega
      omega
     generalize l[j+1]=x at hat d3 d4 hx d6 d7
     generalize l[j]=y at hat2 hy d6 d7
     clear hs1 hm hb1 hb2 hrj he hlt2 hrow
     refine aa (mu:=fun _=>false) ?_
     repeat' (first |((with_reducible show RM.wpOp _ _ (.indexAddr _ _ _) _ _ _);refine ⟨eI x,⟨by omega,hat⟩,rfl,?_⟩) |((with_reducible show RM.wpOp _ _ (.indexAddr _ _ _) _ _ _);refine ⟨eI y,⟨by omega,hat2⟩,rfl,?_⟩) |refine u1 ?_ |((with_reducible show RM.wpOp _ _ (.indexAddr _ _ _) _ _ _);refine ⟨eI x,⟨by omega,hat⟩,rfl,?_⟩) |((with_reducible show RM.wpOp _ _ (.indexAddr _ _ _) _ _ _);refine ⟨eI y,⟨by omega,hat2⟩,rfl,?_⟩) |refine u2 ?_ |fail)
     exact ⟨((j+1)+1,1),⟨hlt,⟨by dsimp only;omega,by dsimp only;omega⟩,fun h=>absurd h (by simp),hinv⟩,(by dsimp only;omega),au.to 0 rfl ⟨rfl,rfl,rfl,rfl,rfl,rfl,bu (by simp),trivial⟩ (Nat.zero_le _) rfl rfl⟩
  ·have d1:decide ((k:Int) < ((ints l).length:Int))=false:=decide_eq_false (by omega)
   refine aa (mu:=fun _=>false) ?_
   repeat' (first |refine u1 ?_ |refine u2 ?_ |fail)
   exact .is (au.to 0 rfl ⟨rfl,rfl,rfl,rfl,rfl,trivial⟩ (Nat.zero_le _) rfl rfl)
 ·refine aa (mu:=fun _=>false) ?_
  repeat' (first |refine u1 ?_ |((with_reducible show aj _ _ _ _ _ _ _ _);refine af.call o5 rfl rfl ?_) |((with_reducible show aj _ _ _ _ _ _ _ _);refine af.call aw rfl rfl ?_) |refine u2 ?_ |fail)
  exact ⟨[_],⟨Fz.deep rfl,trivial⟩,rfl⟩
theorem Df (s:ak) (hs:s.Ok) (p:List Order) (full:Bool) (hp:vQ p) (raw:Nat):Pu false 5 [.ag (ay s),.sl (p.map ai) full,U8 raw] (BB true):=by
 have o1:=vC false s hs p full hp
 have o2:=qv false s hs p full hp
 have aw:=BC false
 have mp:p.length≤9223372036854775807:=Nat.le_trans hp.len (by simp [maxLen])
 have ep:((p.map ai).length:Int)=p.length:=by simp
 have z0:decide ((0:Int)=0)=true:=by decide
 have z1:(!decide ((0:Int)=0))=false:=by decide
 have z4:decide ((4:Int)=4)=true:=by decide
 have z40:(!decide ((4:Int)=0))=true:=by decide
 have z04:(!decide ((0:Int)=4))=true:=by decide
 have z44:(!decide ((4:Int)=4))=false:=by decide
 have z5:decide ((4:Int)=0)=false:=by decide
 unfold hJ at o1
 by_cases c1:(aO s p).2=0
 ·rw [c1] at o2
  rw [if_neg (by omega)] at o1
  have hpg:=dM c1
  have p8:=hpg.len
  have hsl:=(ld (R:=s.row.toNat) (most:=s.fail.toNat) (raw:=raw) p.length).2.2.2.2.1
  have hrw:=hpg.good.row
  have hfl:=hpg.good.fail
  rw [show ((s.row.toNat:Nat):Int)=s.row by omega,show ((s.fail.toNat:Nat):Int)=s.fail by omega] at hsl
  have hsm:(cI s.row s.fail raw p.length).length≤maxLen:=by
   have:(cI s.row s.fail raw p.length).length≤s.fail.toNat:=hsl
   simp [maxLen]
   omega
  have o3:Pu false 35 [.ag (ay s),aA ((p.map ai).length:Int),aA s.fail,U8 raw] (.sl (ints (cI s.row s.fail raw p.length)) false):=by
   rw [ep];exact C4 false s p.length p8 s.fail raw
  have o4:=D6 false s hs p full hp (cI s.row s.fail raw p.length) false hsm
  cases hb:gM s p (cV s p) with
  | none =>
   rw [hb] at o1
   rw [wV c1 hb raw] at o4
   generalize cI s.row s.fail raw p.length=other at *
   refine af.body (fn:=Tryd.f5) rfl rfl rfl rfl ?_
   refine aa (mu:=fun _=>false) ?_
   repeat' (first |((with_reducible show kW _ _ _ _ _);refine De ?_) |refine u1 ?_ |((with_reducible show aj _ _ _ _ _ _ _ _);refine af.call o1 rfl rfl ?_) |((with_reducible show aj _ _ _ _ _ _ _ _);refine af.call o2 rfl rfl ?_) |((with_reducible show aj _ _ _ _ _ _ _ _);refine af.call o3 rfl rfl ?_) |((with_reducible show aj _ _ _ _ _ _ _ _);refine af.call o4 rfl rfl ?_) |((with_reducible show aj _ _ _ _ _ _ _ _);refine af.call aw rfl rfl ?_) |refine u2 ?_ |fail)
   exact ⟨[_],⟨Fz.deep rfl,trivial⟩,rfl⟩
  | some b =>
   rw [hb] at o1
   dsimp only at o1
   obtain ⟨h1,h2,h3,h4,h5,h6⟩:=wU c1 hb raw
   have hll:(bx b.f).length≤maxLen:=by simp [maxLen];omega
   have o5:=D6 false s hs p full hp (bx b.f) false hll
   rw [h4] at o5
   have hasc:=List.pairwise_iff_getElem.1 (xZ b.f)
   have hst:∀ (i:Nat) (hi:i < (bx b.f).length),rowAt b.f ((bx b.f)[i].toNat+1)=rowAt b.f (bx b.f)[i].toNat+1:=fun i hi=>Jk (List.getElem_mem hi)
   have hin:∀ (i:Nat) (hi:i < (bx b.f).length),0≤(bx b.f)[i]∧(bx b.f)[i] < (p.length:Nat):=fun i hi=>h5 _ (List.getElem_mem hi)
   clear h4 h5
   generalize cI s.row s.fail raw p.length=other at *
   generalize hday:b.day=day at *
   generalize hneed:b.need=need at *
   generalize bx b.f=l at *
   clear hb hday hneed
   have el:((ints l).length:Int)=l.length:=by simp
   have dl:decide (((ints l).length:Int)≤s.fail)=true:=decide_eq_true (by omega)
   have dd:decide (day=day)=true:=decide_eq_true rfl
   have dn:decide (need=need)=true:=decide_eq_true rfl
   have l8:l.length≤8:=by omega
   have tl:=E7 (s:=s) (full:=full) (f:=b.f) p8 l8 hin hasc hst h3 dl o5
   clear hin hasc hst h3 h1 h2
   rcases h6 with h6|⟨d,n,h6,hlx⟩
   ·rw [h6] at o4
    refine af.body (fn:=Tryd.f5) rfl rfl rfl rfl ?_
    refine RM.cm (mu:=fun _=>false) ?_
    repeat' (first |refine u1 ?_ |refine u2 ?_ |fail)
    refine RM.cm (mu:=fun _=>false) ?_
    repeat' (first |refine u1 ?_ |((with_reducible show aj _ _ _ _ _ _ _ _);refine af.call o1 rfl rfl ?_) |refine u2 ?_ |fail)
    refine RM.cm (mu:=fun _=>false) ?_
    repeat' (first |refine u1 ?_ |((with_reducible show aj _ _ _ _ _ _ _ _);refine af.call o2 rfl rfl ?_) |refine u2 ?_ |fail)
    refine RM.cm (mu:=fun _=>false) ?_
    repeat' (first |refine u1 ?_ |((with_reducible show aj _ _ _ _ _ _ _ _);refine af.call o3 rfl rfl ?_) |refine u2 ?_ |fail)
    refine RM.cm (mu:=fun _=>false) ?_
    repeat' (first |refine u1 ?_ |((with_reducible show aj _ _ _ _ _ _ _ _);refine af.call o4 rfl rfl ?_) |refine u2 ?_ |fail)
    refine RM.cm (mu:=fun _=>false) ?_
    repeat' (first |refine u1 ?_ |refine u2 ?_ |fail)
    refine RM.cm (mu:=fun _=>false) ?_
    repeat' (first |refine u1 ?_ |refine u2 ?_ |fail)
    refine RM.cm (mu:=fun _=>false) ?_
    repeat' (first |refine u1 ?_ |refine u2 ?_ |fail)
    refine aB.aL (au.to (l:=[(1,.sl (p.map ai) full),(3,.pt (ay s) 0),(7,.sl (ints l) false),(8,aA day),(9,aA need)]) (hp:=[]) 0 rfl ⟨rfl,rfl,rfl,rfl,rfl,trivial⟩ (Nat.zero_le _) rfl rfl) ?_
    exact tl
   ·rw [h6] at o4
    by_cases hd:d=day
    ·have d1:decide (d < day)=false:=decide_eq_false (by omega)
     have d2:decide (d=day)=true:=decide_eq_true hd
     have d3:decide (n < need)=false:=decide_eq_false (by omega)
     refine af.body (fn:=Tryd.f5) rfl rfl rfl rfl ?_
     refine RM.cm (mu:=fun _=>false) ?_
     repeat' (first |refine u1 ?_ |refine u2 ?_ |fail)
     refine RM.cm (mu:=fun _=>false) ?_
     repeat' (first |refine u1 ?_ |((with_reducible show aj _ _ _ _ _ _ _ _);refine af.call o1 rfl rfl ?_) |refine u2 ?_ |fail)
     refine RM.cm (mu:=fun _=>false) ?_
     repeat' (first |refine u1 ?_ |((with_reducible show aj _ _ _ _ _ _ _ _);refine af.call o2 rfl rfl ?_) |refine u2 ?_ |fail)
     refine RM.cm (mu:=fun _=>false) ?_
     repeat' (first |refine u1 ?_ |((with_reducible show aj _ _ _ _ _ _ _ _);refine af.call o3 rfl rfl ?_) |refine u2 ?_ |fail)
     refine RM.cm (mu:=fun _=>false) ?_
     repeat' (first |refine u1 ?_ |((with_reducible show aj _ _ _ _ _ _ _ _);refine af.call o4 rfl rfl ?_) |refine u2 ?_ |fail)
     refine RM.cm (mu:=fun _=>false) ?_
     repeat' (first |refine u1 ?_ |refine u2 ?_ |fail)
     refine RM.cm (mu:=fun _=>false) ?_
     repeat' (first |refine u1 ?_ |refine u2 ?_ |fail)
     refine RM.cm (mu:=fun _=>false) ?_
     repeat' (first |refine u1 ?_ |refine u2 ?_ |fail)
     refine aB.aL (au.to (l:=[(1,.sl (p.map ai) full),(3,.pt (ay s) 0),(7,.sl (ints l) false),(8,aA day),(9,aA need)]) (hp:=[]) 0 rfl ⟨rfl,rfl,rfl,rfl,rfl,trivial⟩ (Nat.zero_le _) rfl rfl) ?_
     exact tl
    ·have d1:decide (d < day)=false:=decide_eq_false (by omega)
     have d2:decide (d=day)=false:=decide_eq_false hd
     refine af.body (fn:=Tryd.f5) rfl rfl rfl rfl ?_
     refine RM.cm (mu:=fun _=>false) ?_
     repeat' (first |refine u1 ?_ |refine u2 ?_ |fail)
     refine RM.cm (mu:=fun _=>false) ?_
     repeat' (first |refine u1 ?_ |((with_reducible show aj _ _ _ _ _ _ _ _);refine af.call o1 rfl rfl ?_) |refine u2 ?_ |fail)
     refine RM.cm (mu:=fun _=>false) ?_
     repeat' (first |refine u1 ?_ |((with_reducible show aj _ _ _ _ _ _ _ _);refine af.call o2 rfl rfl ?_) |refine u2 ?_ |fail)
     refine RM.cm (mu:=fun _=>false) ?_
     repeat' (first |refine u1 ?_ |((with_reducible show aj _ _ _ _ _ _ _ _);refine af.call o3 rfl rfl ?_) |refine u2 ?_ |fail)
     refine RM.cm (mu:=fun _=>false) ?_
     repeat' (first |refine u1 ?_ |((with_reducible show aj _ _ _ _ _ _ _ _);refine af.call o4 rfl rfl ?_) |refine u2 ?_ |fail)
     refine RM.cm (mu:=fun _=>false) ?_
     repeat' (first |refine u1 ?_ |refine u2 ?_ |fail)
     refine RM.cm (mu:=fun _=>false) ?_
     repeat' (first |refine u1 ?_ |refine u2 ?_ |fail)
     refine RM.cm (mu:=fun _=>false) ?_
     repeat' (first |refine u1 ?_ |refine u2 ?_ |fail)
     refine aB.aL (au.to (l:=[(1,.sl (p.map ai) full),(3,.pt (ay s) 0),(7,.sl (ints l) false),(8,aA day),(9,aA need)]) (hp:=[]) 0 rfl ⟨rfl,rfl,rfl,rfl,rfl,trivial⟩ (Nat.zero_le _) rfl rfl) ?_
     exact tl
 ·rw [if_pos c1] at o1
  rw [decide_eq_false c1] at o2
  generalize (aO s p).2=e at *
  have d1:(!decide (e=0))=true:=by rw [decide_eq_false c1];rfl
  refine af.body (fn:=Tryd.f5) rfl rfl rfl rfl ?_
  refine aa (mu:=fun _=>false) ?_
  repeat' (first |((with_reducible show kW _ _ _ _ _);refine De ?_) |refine u1 ?_ |((with_reducible show aj _ _ _ _ _ _ _ _);refine af.call o1 rfl rfl ?_) |((with_reducible show aj _ _ _ _ _ _ _ _);refine af.call o2 rfl rfl ?_) |((with_reducible show aj _ _ _ _ _ _ _ _);refine af.call aw rfl rfl ?_) |refine u2 ?_ |fail)
  exact ⟨[_],⟨Fz.deep rfl,trivial⟩,rfl⟩
end Go.Proofs.YtpeogffeoehboaaDoor
open Go Go.RM
namespace Go.Proofs.YtpeogffeoehboaaDoor
set_option maxRecDepth 100000
set_option maxHeartbeats 4000000
theorem E8 (s:ak) (hs:s.Ok) (p:List Order) (full:Bool) (hp:vQ p) (raw:Nat):Pu false 7 [.ag (ay s),.sl (p.map ai) full,U8 raw] (BB true):=by
 have o1:=Kc false s hs p full hp
 have o2:=qv false s hs p full hp
 have o3:Pu false 20 [.ag (ay s),.sl (p.map ai) full,.fl (.slice none 0 0)] (.tp [aA (jE s p []).1,aA (jE s p []).2.1,aA (jE s p []).2.2]):=xV (a:=[.ag (ay s),.sl (p.map ai) full]) (b:=false) (D6 false s hs p full hp [] false (Nat.zero_le _))
 have aw:=BC false
 have mp:p.length≤9223372036854775807:=Nat.le_trans hp.len (by simp [maxLen])
 have ep:((p.map ai).length:Int)=p.length:=by simp
 have z0:decide ((0:Int)=0)=true:=by decide
 have z1:(!decide ((0:Int)=0))=false:=by decide
 have z9:decide ((9:Int)=9)=true:=by decide
 have z90:(!decide ((9:Int)=0))=true:=by decide
 have z44:(!decide ((4:Int)=4))=false:=by decide
 by_cases c1:(aO s p).2=0
 ·rw [c1] at o2
  have hpg:=dM c1
  have p8:=hpg.len
  rcases BO c1 with ⟨b1,b2⟩|⟨n,hn,b1,b2,b3,b4,b5⟩
  ·rw [b1] at o1
   rw [b2] at o3
   generalize (jE s p []).1=x1 at *
   generalize (jE s p []).2.1=x2 at *
   refine af.body (fn:=Tryd.f7) rfl rfl rfl rfl ?_
   refine aa (mu:=fun _=>false) ?_
   repeat' (first |refine u1 ?_ |((with_reducible show aj _ _ _ _ _ _ _ _);refine af.call o1 rfl rfl ?_) |((with_reducible show aj _ _ _ _ _ _ _ _);refine af.call o2 rfl rfl ?_) |((with_reducible show aj _ _ _ _ _ _ _ _);refine af.call o3 rfl rfl ?_) |((with_reducible show aj _ _ _ _ _ _ _ _);refine af.call aw rfl rfl ?_) |refine u2 ?_ |fail)
   exact ⟨[_],⟨Fz.deep rfl,trivial⟩,rfl⟩
  ·rw [b1] at o1
   rw [b2] at o3
   have hsl:=(ld (R:=s.row.toNat) (most:=n) (raw:=raw) p.length).2.2.2.2.1
   have hrw:=hpg.good.row
   rw [show ((s.row.toNat:Nat):Int)=s.row by omega] at hsl
   have hsm:(cI s.row (n:Nat) raw p.length).length≤maxLen:=by
    have:(cI s.row (n:Nat) raw p.length).length≤n:=hsl
    simp [maxLen]
    omega
   have o4:Pu true 35 [.ag (ay s),aA ((p.map ai).length:Int),aA (n:Nat),U8 raw] (.sl (ints (cI s.row (n:Nat) raw p.length)) false):=by
    rw [ep];exact C4 true s p.length p8 (n:Nat) raw
   have o5:=D6 true s hs p full hp (cI s.row (n:Nat) raw p.length) false hsm
   rw [b3 raw] at o5
   have o6:=rF false (iz s (n:Nat)) ⟨hs.needs,hs.names,hs.possible⟩ p full hp
   rw [b4] at o6
   have o7:=rF false (iz s ((n:Nat)+1)) ⟨hs.needs,hs.names,hs.possible⟩ p full hp
   generalize cI s.row (n:Nat) raw p.length=other at *
   have hn8:(n:Int)≤8:=by omega
   have d1:decide ((n:Int) < 0)=false:=decide_eq_false (by omega)
   have d2:decide (((p.map ai).length:Int) < (n:Int))=false:=decide_eq_false (by omega)
   by_cases e:n=p.length
   ·have d3:decide ((n:Int)=((p.map ai).length:Int))=true:=decide_eq_true (by omega)
    refine af.body (fn:=Tryd.f7) rfl rfl rfl rfl ?_
    refine RM.cm (mu:=fun _=>false) ?_
    repeat' (first |refine u1 ?_ |refine u2 ?_ |fail)
    refine RM.cm (mu:=fun _=>false) ?_
    repeat' (first |refine u1 ?_ |((with_reducible show aj _ _ _ _ _ _ _ _);refine af.call o1 rfl rfl ?_) |refine u2 ?_ |fail)
    refine RM.cm (mu:=fun _=>false) ?_
    repeat' (first |refine u1 ?_ |((with_reducible show aj _ _ _ _ _ _ _ _);refine af.call o2 rfl rfl ?_) |refine u2 ?_ |fail)
    refine RM.cm (mu:=fun _=>false) ?_
    repeat' (first |refine u1 ?_ |((with_reducible show aj _ _ _ _ _ _ _ _);refine af.call o3 rfl rfl ?_) |refine u2 ?_ |fail)
    refine RM.cm (mu:=fun _=>false) ?_
    repeat' (first |refine u1 ?_ |refine u2 ?_ |fail)
    refine RM.cm (mu:=fun _=>false) ?_
    repeat' (first |refine u1 ?_ |refine u2 ?_ |fail)
    refine RM.cm (mu:=fun _=>false) ?_
    repeat' (first |refine u1 ?_ |refine u2 ?_ |fail)
    refine RM.cm (mu:=fun _=>false) ?_
    repeat' (first |refine u1 ?_ |refine u2 ?_ |fail)
    refine RM.cm (mu:=fun _=>false) ?_
    repeat' (first |refine u1 ?_ |refine u2 ?_ |fail)
    refine RM.cm (mu:=fun _=>false) ?_
    repeat' (first |refine u1 ?_ |((with_reducible show aj _ _ _ _ _ _ _ _);refine af.call o6 rfl rfl ?_) |refine u2 ?_ |fail)
    refine RM.cm (mu:=fun _=>false) ?_
    repeat' (first |refine u1 ?_ |refine u2 ?_ |fail)
    refine aa (mu:=fun _=>false) ?_
    repeat' (first |refine u1 ?_ |((with_reducible show aj _ _ _ _ _ _ _ _);refine af.call aw rfl rfl ?_) |refine u2 ?_ |fail)
    exact ⟨[_],⟨Fz.deep rfl,trivial⟩,rfl⟩
   ·have d3:decide ((n:Int)=((p.map ai).length:Int))=false:=decide_eq_false (by omega)
    rw [b5 (by omega)] at o7
    refine af.body (fn:=Tryd.f7) rfl rfl rfl rfl ?_
    refine RM.cm (mu:=fun _=>false) ?_
    repeat' (first |refine u1 ?_ |refine u2 ?_ |fail)
    refine RM.cm (mu:=fun _=>false) ?_
    repeat' (first |refine u1 ?_ |((with_reducible show aj _ _ _ _ _ _ _ _);refine af.call o1 rfl rfl ?_) |refine u2 ?_ |fail)
    refine RM.cm (mu:=fun _=>false) ?_
    repeat' (first |refine u1 ?_ |((with_reducible show aj _ _ _ _ _ _ _ _);refine af.call o2 rfl rfl ?_) |refine u2 ?_ |fail)
    refine RM.cm (mu:=fun _=>false) ?_
    repeat' (first |refine u1 ?_ |((with_reducible show aj _ _ _ _ _ _ _ _);refine af.call o3 rfl rfl ?_) |refine u2 ?_ |fail)
    refine RM.cm (mu:=fun _=>false) ?_
    repeat' (first |refine u1 ?_ |refine u2 ?_ |fail)
    refine RM.cm (mu:=fun _=>false) ?_
    repeat' (first |refine u1 ?_ |refine u2 ?_ |fail)
    refine RM.cm (mu:=fun _=>false) ?_
    repeat' (first |refine u1 ?_ |refine u2 ?_ |fail)
    refine RM.cm (mu:=fun _=>false) ?_
    repeat' (first |refine u1 ?_ |refine u2 ?_ |fail)
    refine RM.cm (mu:=fun _=>false) ?_
    repeat' (first |refine u1 ?_ |refine u2 ?_ |fail)
    refine RM.cm (mu:=fun _=>false) ?_
    repeat' (first |refine u1 ?_ |((with_reducible show aj _ _ _ _ _ _ _ _);refine af.call o6 rfl rfl ?_) |refine u2 ?_ |fail)
    refine RM.cm (mu:=fun _=>false) ?_
    repeat' (first |refine u1 ?_ |refine u2 ?_ |fail)
    refine aa (mu:=fun _=>false) ?_
    repeat' (first |refine u1 ?_ |((with_reducible show aj _ _ _ _ _ _ _ _);refine af.call o7 rfl rfl ?_) |((with_reducible show aj _ _ _ _ _ _ _ _);refine af.call aw rfl rfl ?_) |refine u2 ?_ |fail)
    exact ⟨[_],⟨Fz.deep rfl,trivial⟩,rfl⟩
 ·have e1:iG s p []=(0,(aO s p).2):=by unfold iG;rw [if_pos c1]
  rw [e1] at o1
  rw [decide_eq_false c1] at o2
  generalize (aO s p).2=e at *
  have d1:(!decide (e=0))=true:=by rw [decide_eq_false c1];rfl
  refine af.body (fn:=Tryd.f7) rfl rfl rfl rfl ?_
  refine aa (mu:=fun _=>false) ?_
  repeat' (first |refine u1 ?_ |((with_reducible show aj _ _ _ _ _ _ _ _);refine af.call o1 rfl rfl ?_) |((with_reducible show aj _ _ _ _ _ _ _ _);refine af.call o2 rfl rfl ?_) |((with_reducible show aj _ _ _ _ _ _ _ _);refine af.call aw rfl rfl ?_) |refine u2 ?_ |fail)
  exact ⟨[_],⟨Fz.deep rfl,trivial⟩,rfl⟩
end Go.Proofs.YtpeogffeoehboaaDoor
