/-
  Contracts of the program's functions and of the document's. Lemmas alone; their conditions stand in them.
-/
import Derived.Test.YtlpmfgmldmdggaaGreatA4
import Derived.Test.YtlpmfgmldmdggaaGreatK4
open Go Go.RM
namespace Go.Proofs.YtlpmfgmldmdggaaGreat
set_option maxRecDepth 100000
set_option maxHeartbeats 4000000
def GO (c:ay) (day:Int) (v n cc:Nat) (R:List AB) (av:bw) (r:List Acc ⊕ Int) (y:xh) (hp':List AB) (amb':bw):Prop :=
 amb'=av∧match r with
  | .inl ls=>y=.ret (.tp [])∧hp'=eA c day v n cc :: fo ls v :: R
  | .inr e=>y=.eK (ER e)∧∃ b0 b1,(AB.ig 2 b0=true∧AB.ig 2 b1=true)∧hp'=b0 :: b1 :: R
def gH (i:Nat) (p q:Int) (ls:List Acc):List Acc ⊕ Int :=
 match ls[i]? with
 | some a=>if a.place=p then .inl (ls.set i {a with place:=q}) else .inr 9
 | none=>.inr 9
theorem ji {i:Nat} {p q:Int} {ls ls':List Acc} (h:gH i p q ls=.inl ls'):ls'.length=ls.length:=by
 unfold gH at h
 split at h
 ·split at h
  ·cases h;simp
  ·cases h
 ·cases h
theorem xl (one:Bool) (n0:Nat) {c:ay} {day:Int} {ls:List Acc} {v n cc:Nat} (hn:ls.length=n) {xa xb:AB} {av:bw} (i:Nat) (hi:i < n) (p q:Int) :
  di TT TB one (n0+2) (.fn 142 [] []) [.ptr 0 0 0,ah (i:Int),ah p,ah q] (eA c day v n cc :: fo ls v :: [xa,xb]) av (GO c day v n cc [xa,xb] av (gH i p q ls)):=by
 have hil:i < ls.length:=by omega
 have hat:ls[i]?=some ls[i]:=List.getElem?_eq_getElem hil
 unfold gH
 rw [hat]
 simp only
 generalize ls[i]=a at *
 refine di.body (fn:=Tryz.f142) rfl rfl ?_
 refine ak.seq ?_
 refine ak.ku bI (A:=[_,_,_,_,_,_,_,_,_,_]) (mu:=fun _=>false) rfl ?_
 repeat' (first |refine u1 ?_ |(refine Dg (q:=0) rfl rfl rfl hat (by simp) (by decide) rfl ?_) |refine u2 ?_ |fail)
 refine ⟨_,fZ one n0 (decide (a.place=p)) 9,?_,?_⟩
 ·rintro r hp' amb' ⟨rfl,rfl,h⟩
  obtain ⟨hb,hr⟩:decide (a.place=p)=true∧r=.tp []:=by
   rcases h with ⟨h1,h2⟩|⟨_,h2⟩
   ·cases h2;exact ⟨h1,rfl⟩
   ·cases h2
  subst hr
  rw [if_pos (of_decide_eq_true hb)]
  refine bz ?_
  refine ak.ops bI (mu:=fun _=>false) ?_
  repeat' (first |refine u1 ?_ |(refine D8 rfl rfl rfl hat (by simp) rfl ?_) |refine u2 ?_ |fail)
  exact rfl
 ·rintro r hp' amb' ⟨rfl,rfl,h⟩
  obtain ⟨hb,hr⟩:decide (a.place=p)=false∧r=ER 9:=by
   rcases h with ⟨_,h2⟩|⟨h1,h2⟩
   ·cases h2
   ·cases h2;exact ⟨h1,rfl⟩
  subst hr
  rw [if_neg (of_decide_eq_false hb)]
  refine Ea ?_
  exact ⟨rfl,rfl,_,_,⟨dB _ _ _ _ _ _ (by decide),cg _ _ _⟩,rfl⟩
theorem GO.ret {c:ay} {day:Int} {v n cc:Nat} {R:List AB} {av:bw} {r:List Acc ⊕ Int} {a:AV} {hp':List AB} {amb':bw} (h:GO c day v n cc R av r (.ret a) hp' amb'):∃ ls,r=.inl ls∧a=.tp []∧hp'=eA c day v n cc :: fo ls v :: R∧amb'=av:=by
 obtain ⟨h1,h2⟩:=h
 cases r with
 | inl ls=>obtain ⟨h3,h4⟩:=h2;cases h3;exact ⟨ls,rfl,rfl,h4,h1⟩
 | inr e=>obtain ⟨h3,_⟩:=h2;cases h3
theorem GO.eK {c:ay} {day:Int} {v n cc:Nat} {R:List AB} {av:bw} {r:List Acc ⊕ Int} {a:AV} {hp':List AB} {amb':bw} (h:GO c day v n cc R av r (.eK a) hp' amb'):∃ e b0 b1,(AB.ig 2 b0=true∧AB.ig 2 b1=true)∧r=.inr e∧a=ER e∧hp'=b0 :: b1 :: R∧amb'=av:=by
 obtain ⟨h1,h2⟩:=h
 cases r with
 | inl ls=>obtain ⟨h3,_⟩:=h2;cases h3
 | inr e=>obtain ⟨h3,b0,b1,hbb,h4⟩:=h2;cases h3;exact ⟨e,b0,b1,hbb,rfl,rfl,h4,h1⟩
theorem Iq (one:Bool) (n0:Nat) {c:ay} {day:Int} {ls:List Acc} {v n cc:Nat} (hn:ls.length=n) {xa xb:AB} {av:bw} (d k o:Int) (i:Nat) (hi:i < n) :
  di TT TB one (n0+3) (.fn 123 [.ptr 0 0 0] []) [.ag [ah d,ah k,ah (i:Int),ah o]] (eA c day v n cc :: fo ls v :: [xa,xb]) av (GO c day v n cc [xa,xb] av (gH i 1 0 ls)):=by
 refine di.body (fn:=Tryz.f123) rfl rfl ?_
 refine ak.seq ?_
 refine ak.ops bI (mu:=fun _=>false) ?_
 repeat' (first |refine u1 ?_ |refine u2 ?_ |fail)
 refine bz ?_
 refine ak.ku bI (A:=[_,_,_]) (mu:=fun _=>false) rfl ?_
 repeat' (first |refine u1 ?_ |refine u2 ?_ |fail)
 refine ⟨_,xl one n0 hn i hi 1 0,?_,?_⟩
 ·intro a hp' amb' h
  obtain ⟨ls',h1,rfl,rfl,rfl⟩:=h.ret
  rw [h1]
  exact ⟨rfl,rfl,rfl⟩
 ·intro a hp' amb' h
  obtain ⟨e,b0,b1,hbb,h1,rfl,rfl,rfl⟩:=h.eK
  rw [h1]
  exact ⟨rfl,rfl,_,_,hbb,rfl⟩
theorem Ir (one:Bool) (n0:Nat) {c:ay} {day:Int} {ls:List Acc} {v n cc:Nat} (hn:ls.length=n) {xa xb:AB} {av:bw} (d k o:Int) (i:Nat) (hi:i < n) :
  di TT TB one (n0+3) (.fn 125 [.ptr 0 0 0] []) [.ag [ah d,ah k,ah (i:Int),ah o]] (eA c day v n cc :: fo ls v :: [xa,xb]) av (GO c day v n cc [xa,xb] av (gH i 2 0 ls)):=by
 refine di.body (fn:=Tryz.f125) rfl rfl ?_
 refine ak.seq ?_
 refine ak.ops bI (mu:=fun _=>false) ?_
 repeat' (first |refine u1 ?_ |refine u2 ?_ |fail)
 refine bz ?_
 refine ak.ku bI (A:=[_,_,_]) (mu:=fun _=>false) rfl ?_
 repeat' (first |refine u1 ?_ |refine u2 ?_ |fail)
 refine ⟨_,xl one n0 hn i hi 2 0,?_,?_⟩
 ·intro a hp' amb' h
  obtain ⟨ls',h1,rfl,rfl,rfl⟩:=h.ret
  rw [h1]
  exact ⟨rfl,rfl,rfl⟩
 ·intro a hp' amb' h
  obtain ⟨e,b0,b1,hbb,h1,rfl,rfl,rfl⟩:=h.eK
  rw [h1]
  exact ⟨rfl,rfl,_,_,hbb,rfl⟩
def y9 (i:Nat) (ls:List Acc):List Acc ⊕ Int :=
 match ls[i]? with
 | some a=>if a.place=2 then .inr 9 else .inl (ls.set i {a with place:=2})
 | none=>.inr 9
theorem Is (one:Bool) (n0:Nat) {c:ay} {day:Int} {ls:List Acc} {v n cc:Nat} (hn:ls.length=n) {xa xb:AB} {av:bw} (d k o:Int) (i:Nat) (hi:i < n) :
  di TT TB one (n0+3) (.fn 124 [.ptr 0 0 0] []) [.ag [ah d,ah k,ah (i:Int),ah o]] (eA c day v n cc :: fo ls v :: [xa,xb]) av (GO c day v n cc [xa,xb] av (y9 i ls)):=by
 have hil:i < ls.length:=by omega
 have hat:ls[i]?=some ls[i]:=List.getElem?_eq_getElem hil
 unfold y9
 rw [hat]
 simp only
 generalize ls[i]=a at *
 refine di.body (fn:=Tryz.f124) rfl rfl ?_
 refine ak.seq ?_
 refine ak.ops bI (mu:=fun _=>false) ?_
 repeat' (first |refine u1 ?_ |refine u2 ?_ |fail)
 refine bz ?_
 refine ak.seq ?_
 refine ak.fY (A:=[_,_,_,_,_,_,_,_,_,_]) (c:=10) (mu:=fun _=>false) rfl rfl (by kernel_rfl) ?_
 repeat' (first |refine u1 ?_ |(refine Dg (q:=0) rfl rfl rfl hat (by simp) (by decide) rfl ?_) |refine u2 ?_ |fail)
 refine ⟨_,fZ one (n0+1) (!decide (a.place=2)) 9,?_,?_⟩
 ·rintro r hp' amb' ⟨rfl,rfl,h⟩
  obtain ⟨hb,hr⟩:(!decide (a.place=2))=true∧r=.tp []:=by
   rcases h with ⟨h1,h2⟩|⟨_,h2⟩
   ·cases h2;exact ⟨h1,rfl⟩
   ·cases h2
  subst hr
  rw [if_neg (by simpa using hb)]
  refine bz ?_
  refine ak.draw (by kernel_rfl) ?_
  refine aa (mu:=fun _=>false) ?_
  repeat' (first |refine u1 ?_ |(refine D8 rfl rfl rfl hat (by simp) rfl ?_) |refine u2 ?_ |fail)
  exact rfl
 ·rintro r hp' amb' ⟨rfl,rfl,h⟩
  obtain ⟨hb,hr⟩:(!decide (a.place=2))=false∧r=ER 9:=by
   rcases h with ⟨_,h2⟩|⟨h1,h2⟩
   ·cases h2
   ·cases h2;exact ⟨h1,rfl⟩
  subst hr
  rw [if_pos (by simpa using hb)]
  refine Ea ?_
  exact ⟨rfl,rfl,_,_,⟨dB _ _ _ _ _ _ (by decide),cg _ _ _⟩,rfl⟩
def za (i j:Nat) (ls:List Acc):List Acc ⊕ Int :=
 match gH i 0 1 ls with
 | .inl ls'=>gH j 1 0 ls'
 | .inr e=>.inr e
theorem It (one:Bool) (n0:Nat) {c:ay} {day:Int} {ls:List Acc} {v n cc:Nat} (hn:ls.length=n) {xa xb:AB} {av:bw} (d k:Int) (i j:Nat) (hi:i < n) (hj:j < n) :
  di TT TB one (n0+3) (.fn 126 [.ptr 0 0 0] []) [.ag [ah d,ah k,ah (i:Int),ah (j:Int)]] (eA c day v n cc :: fo ls v :: [xa,xb]) av (GO c day v n cc [xa,xb] av (za i j ls)):=by
 unfold za
 refine di.body (fn:=Tryz.f126) rfl rfl ?_
 refine ak.seq ?_
 refine ak.ops bI (mu:=fun _=>false) ?_
 repeat' (first |refine u1 ?_ |refine u2 ?_ |fail)
 refine bz ?_
 refine ak.seq ?_
 refine ak.ku bI (A:=[_,_,_]) (mu:=fun _=>false) rfl ?_
 repeat' (first |refine u1 ?_ |refine u2 ?_ |fail)
 refine ⟨_,xl one n0 hn i hi 0 1,?_,?_⟩
 ·intro a hp' amb' h
  obtain ⟨ls',h1,rfl,rfl,rfl⟩:=h.ret
  rw [h1]
  simp only
  refine bz ?_
  refine ak.ku bI (A:=[_,_,_]) (mu:=fun _=>false) rfl ?_
  repeat' (first |refine u1 ?_ |refine u2 ?_ |fail)
  refine ⟨_,xl one n0 ((ji h1).trans hn) j hj 1 0,?_,?_⟩
  ·intro a hp' amb' h
   obtain ⟨ls2,h1,rfl,rfl,rfl⟩:=h.ret
   rw [h1]
   exact ⟨rfl,rfl,rfl⟩
  ·intro a hp' amb' h
   obtain ⟨e,b0,b1,hbb,h1,rfl,rfl,rfl⟩:=h.eK
   rw [h1]
   exact ⟨rfl,rfl,_,_,hbb,rfl⟩
 ·intro a hp' amb' h
  obtain ⟨e,b0,b1,hbb,h1,rfl,rfl,rfl⟩:=h.eK
  rw [h1]
  exact ⟨rfl,rfl,_,_,hbb,rfl⟩
end Go.Proofs.YtlpmfgmldmdggaaGreat
open Go Go.RM
namespace Go.Proofs.YtlpmfgmldmdggaaGreat
set_option maxRecDepth 100000
set_option maxHeartbeats 4000000
def nT (ls:List Acc):Nat:=ls.countP fun a=>decide (a.place=0)
theorem Dh {ls:List Acc} {k:Nat} (h:k < ls.length):nT (ls.take (k+1))=if ls[k].place=0 then nT (ls.take k)+1 else nT (ls.take k):=by
 unfold nT
 rw [List.take_add_one,List.getElem?_eq_getElem h,List.countP_append]
 simp only [Option.toList_some,List.countP_cons,List.countP_nil,decide_eq_true_eq,Nat.zero_add]
 split <;> rfl
def xp (c:ay) (i:Nat) (ls:List Acc):List Acc ⊕ Int :=
 match gH i 0 1 ls with
 | .inl ls'=>match ls'[i]? with
  | some a=>if 1000≤a.fm then if c.least≤(nT ls':Int) then .inl ls' else .inr 8 else .inr 9
  | none=>.inr 9
 | .inr e=>.inr e
theorem Iv (one:Bool) (n0:Nat) {c:ay} {day:Int} {ls:List Acc} {v n cc:Nat} (hn:ls.length=n) (hn5:n≤5) {xa xb:AB} (hxa:AB.ig 4 xa=true) (hxb:AB.ig 4 xb=true) {av:bw} (d k o:Int) (i:Nat) (hi:i < n) :
  di TT TB one (n0+12) (.fn 122 [.ptr 0 0 0] []) [.ag [ah d,ah k,ah (i:Int),ah o]] (eA c day v n cc :: fo ls v :: [xa,xb]) av (GO c day v n cc [xa,xb] av (xp c i ls)):=by
 unfold xp
 refine di.body (fn:=Tryz.f122) rfl rfl ?_
 refine ak.seq ?_
 refine ak.ops bI (mu:=fun _=>false) ?_
 repeat' (first |refine u1 ?_ |refine u2 ?_ |fail)
 refine bz ?_
 refine ak.seq ?_
 refine ak.ku bI (A:=[_,_,_]) (mu:=fun _=>false) rfl ?_
 repeat' (first |refine u1 ?_ |refine u2 ?_ |fail)
 refine ⟨_,xl one (n0+9) hn i hi 0 1,?_,?_⟩
 rotate_left
 ·intro a hp' amb' h
  obtain ⟨e,b0,b1,hbb,h1,rfl,rfl,rfl⟩:=h.eK
  rw [h1]
  exact ⟨rfl,rfl,_,_,hbb,rfl⟩
 intro a hp' amb' h
 obtain ⟨lq,h1,rfl,rfl,rfl⟩:=h.ret
 clear h
 rw [h1]
 simp only
 have hnq:lq.length=n:=(ji h1).trans hn
 have hil:i < lq.length:=by omega
 have hat:lq[i]?=some lq[i]:=List.getElem?_eq_getElem hil
 rw [hat]
 simp only
 generalize lq[i]=b at *
 refine bz ?_
 refine ak.seq ?_
 refine ak.fY (A:=[_,_,_,_,_,_,_,_,_,_]) (c:=10) (mu:=fun _=>false) rfl rfl (by kernel_rfl) ?_
 repeat' (first |refine u1 ?_ |(refine Dg (q:=1) rfl rfl rfl hat (by simp) (by decide) rfl ?_) |refine u2 ?_ |fail)
 refine ⟨_,fZ one (n0+10) (decide (1000≤b.fm)) 9,?_,?_⟩
 rotate_left
 ·rintro r hp' amb' ⟨rfl,rfl,hz⟩
  obtain ⟨hb,hr⟩:=dZ hz
  subst hr
  rw [if_neg (of_decide_eq_false hb)]
  exact ⟨rfl,rfl,_,_,⟨dB _ _ _ _ _ _ (by decide),cg _ _ _⟩,rfl⟩
 rintro r hp' amb' ⟨rfl,rfl,hz⟩
 obtain ⟨hb,hr⟩:=dY hz
 subst hr
 rw [if_pos (of_decide_eq_true hb)]
 refine bz ?_
 refine ak.seq ?_
 refine ak.ops bI (mu:=fun _=>false) ?_
 repeat' (first |refine u1 ?_ |refine u2 ?_ |fail)
 refine bz ?_
 refine ak.seq ?_
 refine ak.seq ?_
 refine ak.ops bI (mu:=fun _=>false) ?_
 repeat' (first |refine u1 ?_ |refine u2 ?_ |fail)
 refine bz ?_
 refine ak.bx (aj.to (l:=[(0,.ptr 0 0 0),(4,ah (nT (lq.take 0):Int)),(25,.cS 1 v 0 n cc),(26,ah (n:Int)),(27,ah (0:Nat))]) (hp:=(eA c day v n cc :: fo lq v :: [xa,xb])) 4 rfl ⟨rfl,rfl,rfl,rfl,rfl,trivial⟩ (Nat.le_refl _) rfl (by simp only [List.all_cons,List.all_nil,Bool.and_true,Bool.and_eq_true];exact ⟨dB _ _ _ _ _ _ (by decide),cg _ _ _,hxa,hxb⟩)) ?_
 refine ak.block ?_
 refine ak.fuel (n:=n0+5+n+1) (by omega) ?_
 refine ak.loop (n:=n0+5) (fun k:Nat=>k≤n) (fun k=>⟨bM [(0,.ptr 0 0 0),(4,ah (nT (lq.take k):Int)),(25,.cS 1 v 0 n cc),(26,ah (n:Int)),(27,ah (k:Nat))],(eA c day v n cc :: fo lq v :: [xa,xb]),_,false,4⟩) (fun k=>n - k) ?_ 0 (Nat.zero_le _)
 intro k hk
 refine ak.flat bI (by kernel_rfl) ?_
 by_cases hlt:k < n
 ·have d1:decide ((k:Int) < (n:Int))=true:=decide_eq_true (by omega)
  have hkl:k < lq.length:=by omega
  have hak:lq[k]?=some lq[k]:=List.getElem?_eq_getElem hkl
  have hbt:=Dh hkl
  generalize lq[k]=a at *
  obtain ⟨p,ow,e0,e1,e2⟩:=a
  dsimp only at hbt
  have hbk:(nT (lq.take k):Int)≤5:=by
   have:nT (lq.take k)≤(lq.take k).length:=List.countP_le_length
   rw [List.length_take] at this
   omega
  cases hp:decide (p=0) with
  | true =>
   rw [if_pos (of_decide_eq_true hp)] at hbt
   refine aa (mu:=fun _=>false) ?_
   repeat' (first |refine u1 ?_ |(refine ux (e:=[ah p,ah ow,ah e0,ah e1,ah e2]) rfl rfl rfl hak (by simp) rfl ?_) |refine u2 ?_ |fail)
   exact ⟨k+1,hlt,(by dsimp only;omega),aj.to 4 rfl ⟨rfl,by dsimp only;rw [hbt];rfl,rfl,rfl,cK (by simp),trivial⟩ (Nat.le_refl _) rfl (by simp only [List.all_cons,List.all_nil,Bool.and_true,Bool.and_eq_true];exact ⟨dB _ _ _ _ _ _ (by decide),cg _ _ _,hxa,hxb⟩)⟩
  | false =>
   rw [if_neg (of_decide_eq_false hp)] at hbt
   refine aa (mu:=fun _=>false) ?_
   repeat' (first |refine u1 ?_ |(refine ux (e:=[ah p,ah ow,ah e0,ah e1,ah e2]) rfl rfl rfl hak (by simp) rfl ?_) |refine u2 ?_ |fail)
   exact ⟨k+1,hlt,(by dsimp only;omega),aj.to 4 rfl ⟨rfl,by dsimp only;rw [hbt];rfl,rfl,rfl,cK (by simp),trivial⟩ (Nat.le_refl _) rfl (by simp only [List.all_cons,List.all_nil,Bool.and_true,Bool.and_eq_true];exact ⟨dB _ _ _ _ _ _ (by decide),cg _ _ _,hxa,hxb⟩)⟩
 ·have d1:decide ((k:Int) < (n:Int))=false:=decide_eq_false (by omega)
  have e:lq.take k=lq:=List.take_of_length_le (by omega)
  rw [e]
  refine aa (mu:=fun _=>false) ?_
  repeat' (first |refine u1 ?_ |refine u2 ?_ |fail)
  refine ak.ku bI (A:=[_,_,_,_,_,_,_]) (mu:=fun _=>false) rfl ?_
  repeat' (first |refine u1 ?_ |refine u2 ?_ |fail)
  refine ⟨_,fZ one (n0+10) (decide (c.least≤(nT lq:Int))) 8,?_,?_⟩
  ·rintro r hp' amb' ⟨rfl,rfl,hz⟩
   obtain ⟨hb,hr⟩:=dY hz
   subst hr
   rw [if_pos (of_decide_eq_true hb)]
   exact ⟨rfl,rfl,rfl⟩
  ·rintro r hp' amb' ⟨rfl,rfl,hz⟩
   obtain ⟨hb,hr⟩:=dZ hz
   subst hr
   rw [if_neg (of_decide_eq_false hb)]
   exact ⟨rfl,rfl,_,_,⟨dB _ _ _ _ _ _ (by decide),cg _ _ _⟩,rfl⟩
end Go.Proofs.YtlpmfgmldmdggaaGreat
