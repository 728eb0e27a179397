/-
  Contracts of the program's functions and of the document's. Lemmas alone; their conditions stand in them.
-/
import Derived.Test.YtgdbfbalchdmcaaGreatA3
import Derived.Test.YtgdbfbalchdmcaaGreatK4
open Go Go.RM
namespace Go.Proofs.YtgdbfbalchdmcaaGreat
set_option maxRecDepth 100000
set_option maxHeartbeats 4000000
def Jg (c:aH) (day:Int) (v n cc:Nat) (R:List AB) (aA:bW) (r:List Acc ⊕ Int) (y:zK) (hp':List AB) (amb':bW):Prop :=
 amb'=aA∧match r with
  | .inl ls=>y=.ret (.tp [])∧hp'=fk c day v n cc :: iC ls v :: R
  | .inr e=>y=.fG (ER e)∧∃ b0 b1,(AB.gM 2 b0=true∧AB.gM 2 b1=true)∧hp'=b0 :: b1 :: R
def iL (i:Nat) (p q:Int) (ls:List Acc):List Acc ⊕ Int :=
 match ls[i]? with
 | some a=>if a.place=p then .inl (ls.set i {a with place:=q}) else .inr 9
 | none=>.inr 9
theorem kg {i:Nat} {p q:Int} {ls ls':List Acc} (h:iL i p q ls=.inl ls'):ls'.length=ls.length:=by
 unfold iL at h
 split at h
 ·split at h
  ·cases h;simp
  ·cases h
 ·cases h
theorem yF (one:Bool) (n0:Nat) {c:aH} {day:Int} {ls:List Acc} {v n cc:Nat} (hn:ls.length=n) {xa xb:AB} {aA:bW} (i:Nat) (hi:i < n) (p q:Int) :
  eT TT TB one (n0+2) (.fn 173 [] []) [.ptr 0 0 0,ak (i:Int),ak p,ak q] (fk c day v n cc :: iC ls v :: [xa,xb]) aA (Jg c day v n cc [xa,xb] aA (iL i p q ls)):=by
 have hil:i < ls.length:=by omega
 have hat:ls[i]?=some ls[i]:=List.getElem?_eq_getElem hil
 unfold iL
 rw [hat]
 simp only
 generalize ls[i]=a at *
 refine eT.body (fn:=Tryz.f173) rfl rfl ?_
 refine az.seq ?_
 refine az.lS cw (A:=[_,_,_,_,_,_,_,_,_,_]) (mu:=fun _=>false) rfl ?_
 repeat' (first |refine u1 ?_ |(refine E9 (q:=0) rfl rfl rfl hat (by simp) (by decide) rfl ?_) |refine u2 ?_ |fail)
 refine ⟨_,hJ one n0 (decide (a.place=p)) 9,?_,?_⟩
 ·rintro r hp' amb' ⟨rfl,rfl,h⟩
  obtain ⟨hb,hr⟩:decide (a.place=p)=true∧r=.tp []:=by
   rcases h with ⟨h1,h2⟩|⟨_,h2⟩
   ·cases h2;exact ⟨h1,rfl⟩
   ·cases h2
  subst hr
  rw [if_pos (of_decide_eq_true hb)]
  refine cg ?_
  refine az.ops cw (mu:=fun _=>false) ?_
  repeat' (first |refine u1 ?_ |(refine Ga rfl rfl rfl hat (by simp) rfl ?_) |refine u2 ?_ |fail)
  exact rfl
 ·rintro r hp' amb' ⟨rfl,rfl,h⟩
  obtain ⟨hb,hr⟩:decide (a.place=p)=false∧r=ER 9:=by
   rcases h with ⟨_,h2⟩|⟨h1,h2⟩
   ·cases h2
   ·cases h2;exact ⟨h1,rfl⟩
  subst hr
  rw [if_neg (of_decide_eq_false hb)]
  refine Gc ?_
  exact ⟨rfl,rfl,_,_,⟨ee _ _ _ _ _ _ (by decide),cY _ _ _⟩,rfl⟩
theorem Jg.ret {c:aH} {day:Int} {v n cc:Nat} {R:List AB} {aA:bW} {r:List Acc ⊕ Int} {a:AV} {hp':List AB} {amb':bW} (h:Jg c day v n cc R aA r (.ret a) hp' amb'):∃ ls,r=.inl ls∧a=.tp []∧hp'=fk c day v n cc :: iC ls v :: R∧amb'=aA:=by
 obtain ⟨h1,h2⟩:=h
 cases r with
 | inl ls=>obtain ⟨h3,h4⟩:=h2;cases h3;exact ⟨ls,rfl,rfl,h4,h1⟩
 | inr e=>obtain ⟨h3,_⟩:=h2;cases h3
theorem Jg.fG {c:aH} {day:Int} {v n cc:Nat} {R:List AB} {aA:bW} {r:List Acc ⊕ Int} {a:AV} {hp':List AB} {amb':bW} (h:Jg c day v n cc R aA r (.fG a) hp' amb'):∃ e b0 b1,(AB.gM 2 b0=true∧AB.gM 2 b1=true)∧r=.inr e∧a=ER e∧hp'=b0 :: b1 :: R∧amb'=aA:=by
 obtain ⟨h1,h2⟩:=h
 cases r with
 | inl ls=>obtain ⟨h3,_⟩:=h2;cases h3
 | inr e=>obtain ⟨h3,b0,b1,hbb,h4⟩:=h2;cases h3;exact ⟨e,b0,b1,hbb,rfl,rfl,h4,h1⟩
theorem KY (one:Bool) (n0:Nat) {c:aH} {day:Int} {ls:List Acc} {v n cc:Nat} (hn:ls.length=n) {xa xb:AB} {aA:bW} (d k o:Int) (i:Nat) (hi:i < n) :
  eT TT TB one (n0+3) (.fn 158 [.ptr 0 0 0] []) [.ag [ak d,ak k,ak (i:Int),ak o]] (fk c day v n cc :: iC ls v :: [xa,xb]) aA (Jg c day v n cc [xa,xb] aA (iL i 1 0 ls)):=by
 refine eT.body (fn:=Tryz.f158) rfl rfl ?_
 refine az.seq ?_
 refine az.ops cw (mu:=fun _=>false) ?_
 repeat' (first |refine u1 ?_ |refine u2 ?_ |fail)
 refine cg ?_
 refine az.lS cw (A:=[_,_,_]) (mu:=fun _=>false) rfl ?_
 repeat' (first |refine u1 ?_ |refine u2 ?_ |fail)
 refine ⟨_,yF one n0 hn i hi 1 0,?_,?_⟩
 ·intro a hp' amb' h
  obtain ⟨ls',h1,rfl,rfl,rfl⟩:=h.ret
  rw [h1]
  exact ⟨rfl,rfl,rfl⟩
 ·intro a hp' amb' h
  obtain ⟨e,b0,b1,hbb,h1,rfl,rfl,rfl⟩:=h.fG
  rw [h1]
  exact ⟨rfl,rfl,_,_,hbb,rfl⟩
theorem KZ (one:Bool) (n0:Nat) {c:aH} {day:Int} {ls:List Acc} {v n cc:Nat} (hn:ls.length=n) {xa xb:AB} {aA:bW} (d k o:Int) (i:Nat) (hi:i < n) :
  eT TT TB one (n0+3) (.fn 160 [.ptr 0 0 0] []) [.ag [ak d,ak k,ak (i:Int),ak o]] (fk c day v n cc :: iC ls v :: [xa,xb]) aA (Jg c day v n cc [xa,xb] aA (iL i 2 0 ls)):=by
 refine eT.body (fn:=Tryz.f160) rfl rfl ?_
 refine az.seq ?_
 refine az.ops cw (mu:=fun _=>false) ?_
 repeat' (first |refine u1 ?_ |refine u2 ?_ |fail)
 refine cg ?_
 refine az.lS cw (A:=[_,_,_]) (mu:=fun _=>false) rfl ?_
 repeat' (first |refine u1 ?_ |refine u2 ?_ |fail)
 refine ⟨_,yF one n0 hn i hi 2 0,?_,?_⟩
 ·intro a hp' amb' h
  obtain ⟨ls',h1,rfl,rfl,rfl⟩:=h.ret
  rw [h1]
  exact ⟨rfl,rfl,rfl⟩
 ·intro a hp' amb' h
  obtain ⟨e,b0,b1,hbb,h1,rfl,rfl,rfl⟩:=h.fG
  rw [h1]
  exact ⟨rfl,rfl,_,_,hbb,rfl⟩
def At (i:Nat) (ls:List Acc):List Acc ⊕ Int :=
 match ls[i]? with
 | some a=>if a.place=2 then .inr 9 else .inl (ls.set i {a with place:=2})
 | none=>.inr 9
theorem K0 (one:Bool) (n0:Nat) {c:aH} {day:Int} {ls:List Acc} {v n cc:Nat} (hn:ls.length=n) {xa xb:AB} {aA:bW} (d k o:Int) (i:Nat) (hi:i < n) :
  eT TT TB one (n0+3) (.fn 159 [.ptr 0 0 0] []) [.ag [ak d,ak k,ak (i:Int),ak o]] (fk c day v n cc :: iC ls v :: [xa,xb]) aA (Jg c day v n cc [xa,xb] aA (At i ls)):=by
 have hil:i < ls.length:=by omega
 have hat:ls[i]?=some ls[i]:=List.getElem?_eq_getElem hil
 unfold At
 rw [hat]
 simp only
 generalize ls[i]=a at *
 refine eT.body (fn:=Tryz.f159) rfl rfl ?_
 refine az.seq ?_
 refine az.ops cw (mu:=fun _=>false) ?_
 repeat' (first |refine u1 ?_ |refine u2 ?_ |fail)
 refine cg ?_
 refine az.seq ?_
 refine az.hH (A:=[_,_,_,_,_,_,_,_,_,_]) (c:=10) (mu:=fun _=>false) rfl rfl (by kernel_rfl) ?_
 repeat' (first |refine u1 ?_ |(refine E9 (q:=0) rfl rfl rfl hat (by simp) (by decide) rfl ?_) |refine u2 ?_ |fail)
 refine ⟨_,hJ one (n0+1) (!decide (a.place=2)) 9,?_,?_⟩
 ·rintro r hp' amb' ⟨rfl,rfl,h⟩
  obtain ⟨hb,hr⟩:(!decide (a.place=2))=true∧r=.tp []:=by
   rcases h with ⟨h1,h2⟩|⟨_,h2⟩
   ·cases h2;exact ⟨h1,rfl⟩
   ·cases h2
  subst hr
  rw [if_neg (by simpa using hb)]
  refine cg ?_
  refine az.draw (by kernel_rfl) ?_
  refine aa (mu:=fun _=>false) ?_
  repeat' (first |refine u1 ?_ |(refine Ga rfl rfl rfl hat (by simp) rfl ?_) |refine u2 ?_ |fail)
  exact rfl
 ·rintro r hp' amb' ⟨rfl,rfl,h⟩
  obtain ⟨hb,hr⟩:(!decide (a.place=2))=false∧r=ER 9:=by
   rcases h with ⟨_,h2⟩|⟨h1,h2⟩
   ·cases h2
   ·cases h2;exact ⟨h1,rfl⟩
  subst hr
  rw [if_pos (by simpa using hb)]
  refine Gc ?_
  exact ⟨rfl,rfl,_,_,⟨ee _ _ _ _ _ _ (by decide),cY _ _ _⟩,rfl⟩
def Au (i j:Nat) (ls:List Acc):List Acc ⊕ Int :=
 match iL i 0 1 ls with
 | .inl ls'=>iL j 1 0 ls'
 | .inr e=>.inr e
theorem K1 (one:Bool) (n0:Nat) {c:aH} {day:Int} {ls:List Acc} {v n cc:Nat} (hn:ls.length=n) {xa xb:AB} {aA:bW} (d k:Int) (i j:Nat) (hi:i < n) (hj:j < n) :
  eT TT TB one (n0+3) (.fn 161 [.ptr 0 0 0] []) [.ag [ak d,ak k,ak (i:Int),ak (j:Int)]] (fk c day v n cc :: iC ls v :: [xa,xb]) aA (Jg c day v n cc [xa,xb] aA (Au i j ls)):=by
 unfold Au
 refine eT.body (fn:=Tryz.f161) rfl rfl ?_
 refine az.seq ?_
 refine az.ops cw (mu:=fun _=>false) ?_
 repeat' (first |refine u1 ?_ |refine u2 ?_ |fail)
 refine cg ?_
 refine az.seq ?_
 refine az.lS cw (A:=[_,_,_]) (mu:=fun _=>false) rfl ?_
 repeat' (first |refine u1 ?_ |refine u2 ?_ |fail)
 refine ⟨_,yF one n0 hn i hi 0 1,?_,?_⟩
 ·intro a hp' amb' h
  obtain ⟨ls',h1,rfl,rfl,rfl⟩:=h.ret
  rw [h1]
  simp only
  refine cg ?_
  refine az.lS cw (A:=[_,_,_]) (mu:=fun _=>false) rfl ?_
  repeat' (first |refine u1 ?_ |refine u2 ?_ |fail)
  refine ⟨_,yF one n0 ((kg h1).trans hn) j hj 1 0,?_,?_⟩
  ·intro a hp' amb' h
   obtain ⟨ls2,h1,rfl,rfl,rfl⟩:=h.ret
   rw [h1]
   exact ⟨rfl,rfl,rfl⟩
  ·intro a hp' amb' h
   obtain ⟨e,b0,b1,hbb,h1,rfl,rfl,rfl⟩:=h.fG
   rw [h1]
   exact ⟨rfl,rfl,_,_,hbb,rfl⟩
 ·intro a hp' amb' h
  obtain ⟨e,b0,b1,hbb,h1,rfl,rfl,rfl⟩:=h.fG
  rw [h1]
  exact ⟨rfl,rfl,_,_,hbb,rfl⟩
end Go.Proofs.YtgdbfbalchdmcaaGreat
open Go Go.RM
namespace Go.Proofs.YtgdbfbalchdmcaaGreat
set_option maxRecDepth 100000
set_option maxHeartbeats 4000000
def jD (ls:List Acc):Nat:=ls.countP fun a=>decide (a.place=0)
theorem yG {ls:List Acc} {k:Nat} (h:k < ls.length):jD (ls.take (k+1))=if ls[k].place=0 then jD (ls.take k)+1 else jD (ls.take k):=by
 unfold jD
 rw [List.take_add_one,List.getElem?_eq_getElem h,List.countP_append]
 simp only [Option.toList_some,List.countP_cons,List.countP_nil,decide_eq_true_eq,Nat.zero_add]
 split <;> rfl
def yH (c:aH) (i:Nat) (ls:List Acc):List Acc ⊕ Int :=
 match iL i 0 1 ls with
 | .inl ls'=>match ls'[i]? with
  | some a=>if 1000≤a.i4 then if c.least≤(jD ls':Int) then .inl ls' else .inr 8 else .inr 9
  | none=>.inr 9
 | .inr e=>.inr e
theorem K3 (one:Bool) (n0:Nat) {c:aH} {day:Int} {ls:List Acc} {v n cc:Nat} (hn:ls.length=n) (hn5:n≤5) {xa xb:AB} (hxa:AB.gM 4 xa=true) (hxb:AB.gM 4 xb=true) {aA:bW} (d k o:Int) (i:Nat) (hi:i < n) :
  eT TT TB one (n0+12) (.fn 157 [.ptr 0 0 0] []) [.ag [ak d,ak k,ak (i:Int),ak o]] (fk c day v n cc :: iC ls v :: [xa,xb]) aA (Jg c day v n cc [xa,xb] aA (yH c i ls)):=by
 unfold yH
 refine eT.body (fn:=Tryz.f157) rfl rfl ?_
 refine az.seq ?_
 refine az.ops cw (mu:=fun _=>false) ?_
 repeat' (first |refine u1 ?_ |refine u2 ?_ |fail)
 refine cg ?_
 refine az.seq ?_
 refine az.lS cw (A:=[_,_,_]) (mu:=fun _=>false) rfl ?_
 repeat' (first |refine u1 ?_ |refine u2 ?_ |fail)
 refine ⟨_,yF one (n0+9) hn i hi 0 1,?_,?_⟩
 rotate_left
 ·intro a hp' amb' h
  obtain ⟨e,b0,b1,hbb,h1,rfl,rfl,rfl⟩:=h.fG
  rw [h1]
  exact ⟨rfl,rfl,_,_,hbb,rfl⟩
 intro a hp' amb' h
 obtain ⟨lq,h1,rfl,rfl,rfl⟩:=h.ret
 clear h
 rw [h1]
 simp only
 have hnq:lq.length=n:=(kg h1).trans hn
 have hil:i < lq.length:=by omega
 have hat:lq[i]?=some lq[i]:=List.getElem?_eq_getElem hil
 rw [hat]
 simp only
 generalize lq[i]=b at *
 refine cg ?_
 refine az.seq ?_
 refine az.hH (A:=[_,_,_,_,_,_,_,_,_,_]) (c:=10) (mu:=fun _=>false) rfl rfl (by kernel_rfl) ?_
 repeat' (first |refine u1 ?_ |(refine E9 (q:=1) rfl rfl rfl hat (by simp) (by decide) rfl ?_) |refine u2 ?_ |fail)
 refine ⟨_,hJ one (n0+10) (decide (1000≤b.i4)) 9,?_,?_⟩
 rotate_left
 ·rintro r hp' amb' ⟨rfl,rfl,hz⟩
  obtain ⟨hb,hr⟩:=eV hz
  subst hr
  rw [if_neg (of_decide_eq_false hb)]
  exact ⟨rfl,rfl,_,_,⟨ee _ _ _ _ _ _ (by decide),cY _ _ _⟩,rfl⟩
 rintro r hp' amb' ⟨rfl,rfl,hz⟩
 obtain ⟨hb,hr⟩:=eU hz
 subst hr
 rw [if_pos (of_decide_eq_true hb)]
 refine cg ?_
 refine az.seq ?_
 refine az.ops cw (mu:=fun _=>false) ?_
 repeat' (first |refine u1 ?_ |refine u2 ?_ |fail)
 refine cg ?_
 refine az.seq ?_
 refine az.seq ?_
 refine az.ops cw (mu:=fun _=>false) ?_
 repeat' (first |refine u1 ?_ |refine u2 ?_ |fail)
 refine cg ?_
 refine az.aU (aj.to (l:=[(0,.ptr 0 0 0),(4,ak (jD (lq.take 0):Int)),(25,.dM 1 v 0 n cc),(26,ak (n:Int)),(27,ak (0:Nat))]) (hp:=(fk c day v n cc :: iC lq v :: [xa,xb])) 4 rfl ⟨rfl,rfl,rfl,rfl,rfl,trivial⟩ (Nat.le_refl _) rfl (by simp only [List.all_cons,List.all_nil,Bool.and_true,Bool.and_eq_true];exact ⟨ee _ _ _ _ _ _ (by decide),cY _ _ _,hxa,hxb⟩)) ?_
 refine az.block ?_
 refine az.fuel (n:=n0+5+n+1) (by omega) ?_
 refine az.loop (n:=n0+5) (fun k:Nat=>k≤n) (fun k=>⟨bT [(0,.ptr 0 0 0),(4,ak (jD (lq.take k):Int)),(25,.dM 1 v 0 n cc),(26,ak (n:Int)),(27,ak (k:Nat))],(fk c day v n cc :: iC lq v :: [xa,xb]),_,false,4⟩) (fun k=>n - k) ?_ 0 (Nat.zero_le _)
 intro k hk
 refine az.flat cw (by kernel_rfl) ?_
 by_cases hlt:k < n
 ·have d1:decide ((k:Int) < (n:Int))=true:=decide_eq_true (by omega)
  have hkl:k < lq.length:=by omega
  have hak:lq[k]?=some lq[k]:=List.getElem?_eq_getElem hkl
  have hbt:=yG hkl
  generalize lq[k]=a at *
  obtain ⟨p,ow,e0,e1,e2⟩:=a
  dsimp only at hbt
  have hbk:(jD (lq.take k):Int)≤5:=by
   have:jD (lq.take k)≤(lq.take k).length:=List.countP_le_length
   rw [List.length_take] at this
   omega
  cases hp:decide (p=0) with
  | true =>
   rw [if_pos (of_decide_eq_true hp)] at hbt
   refine aa (mu:=fun _=>false) ?_
   repeat' (first |refine u1 ?_ |(refine vO (e:=[ak p,ak ow,ak e0,ak e1,ak e2]) rfl rfl rfl hak (by simp) rfl ?_) |refine u2 ?_ |fail)
   exact ⟨k+1,hlt,(by dsimp only;omega),aj.to 4 rfl ⟨rfl,by dsimp only;rw [hbt];rfl,rfl,rfl,aJ (by simp),trivial⟩ (Nat.le_refl _) rfl (by simp only [List.all_cons,List.all_nil,Bool.and_true,Bool.and_eq_true];exact ⟨ee _ _ _ _ _ _ (by decide),cY _ _ _,hxa,hxb⟩)⟩
  | false =>
   rw [if_neg (of_decide_eq_false hp)] at hbt
   refine aa (mu:=fun _=>false) ?_
   repeat' (first |refine u1 ?_ |(refine vO (e:=[ak p,ak ow,ak e0,ak e1,ak e2]) rfl rfl rfl hak (by simp) rfl ?_) |refine u2 ?_ |fail)
   exact ⟨k+1,hlt,(by dsimp only;omega),aj.to 4 rfl ⟨rfl,by dsimp only;rw [hbt];rfl,rfl,rfl,aJ (by simp),trivial⟩ (Nat.le_refl _) rfl (by simp only [List.all_cons,List.all_nil,Bool.and_true,Bool.and_eq_true];exact ⟨ee _ _ _ _ _ _ (by decide),cY _ _ _,hxa,hxb⟩)⟩
 ·have d1:decide ((k:Int) < (n:Int))=false:=decide_eq_false (by omega)
  have e:lq.take k=lq:=List.take_of_length_le (by omega)
  rw [e]
  refine aa (mu:=fun _=>false) ?_
  repeat' (first |refine u1 ?_ |refine u2 ?_ |fail)
  refine az.lS cw (A:=[_,_,_,_,_,_,_]) (mu:=fun _=>false) rfl ?_
  repeat' (first |refine u1 ?_ |refine u2 ?_ |fail)
  refine ⟨_,hJ one (n0+10) (decide (c.least≤(jD lq:Int))) 8,?_,?_⟩
  ·rintro r hp' amb' ⟨rfl,rfl,hz⟩
   obtain ⟨hb,hr⟩:=eU hz
   subst hr
   rw [if_pos (of_decide_eq_true hb)]
   exact ⟨rfl,rfl,rfl⟩
  ·rintro r hp' amb' ⟨rfl,rfl,hz⟩
   obtain ⟨hb,hr⟩:=eV hz
   subst hr
   rw [if_neg (of_decide_eq_false hb)]
   exact ⟨rfl,rfl,_,_,⟨ee _ _ _ _ _ _ (by decide),cY _ _ _⟩,rfl⟩
end Go.Proofs.YtgdbfbalchdmcaaGreat
