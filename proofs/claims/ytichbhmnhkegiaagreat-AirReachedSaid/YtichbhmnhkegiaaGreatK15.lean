/-
  Contracts of the program's functions and of the document's. Lemmas alone; their conditions stand in them.
-/
import Derived.Test.YtichbhmnhkegiaaGreatK13
import Derived.Test.YtichbhmnhkegiaaGreatK14
open Go Go.RM Go.AirLaw
namespace Go.Proofs.YtichbhmnhkegiaaGreat
set_option maxRecDepth 100000
set_option maxHeartbeats 4000000
theorem CL (one:Bool) (x:Int × Int) (hc:0≤x.1∧x.1≤5000) (hr:0≤x.2∧x.2≤300):Pu one 52 [.ag (eP x)] (ai (gn x.1 x.2)):=by
 unfold gn
 have hz:=iP (c:=x.1) (r:=x.2) hc.1
 generalize hM:most (bU x.1 x.2) 60000=M
 refine af.body (fn:=Tryz.f52) rfl rfl rfl rfl ?_
 refine aa (mu:=fun _=>false) ?_
 repeat' (first |refine u1 ?_ |fail)
 refine ax.aK (ah.to (l:=[(1,.pt (eP x) 0),(3,ai (0:Nat)),(4,ai (60000:Nat))]) (hp:=[]) 0 rfl ⟨rfl,rfl,rfl,trivial⟩ (Nat.zero_le _) rfl rfl) ?_
 refine ax.loop (fun z:Nat × Nat=>(z.1≤z.2∧z.2≤60000)∧bU x.1 x.2 z.1=true∧∀ d,z.2 < d→d≤60000→bU x.1 x.2 d=false) (fun z=>⟨aF [(1,.pt (eP x) 0),(3,ai (z.1:Nat)),(4,ai (z.2:Nat))],[],aV.none,false,0⟩) (fun z=>z.2 - z.1) ?_ (0,60000) ⟨⟨Nat.zero_le _,Nat.le_refl _⟩,hz,(fun d h1 h2=>by dsimp only at h1;omega)⟩
 rintro ⟨a,b⟩ ⟨⟨hab,hb⟩,h1,h2⟩
 dsimp only at hab hb h1 h2
 show ax _ _ _ _ ⟨aF [(1,.pt (eP x) 0),(3,ai (a:Nat)),(4,ai (b:Nat))],[],aV.none,false,0⟩ _
 refine aa (mu:=fun _=>false) ?_
 by_cases hlt:a < b
 ·have d1:decide ((a:Int) < (b:Int))=true:=decide_eq_true (by omega)
  have hs:=AK one ⟨((a:Int)+b+1) / 2,0⟩ x.1 x.2 (by dsimp only;omega) (by dsimp only;omega) hc hr
  dsimp only at hs
  have hm:((a:Int)+b+1) / 2=(((a+b+1) / 2:Nat):Int):=by omega
  have hv:bz (((a:Int)+b+1) / 2) 0 x.1 x.2=bU x.1 x.2 ((a+b+1) / 2):=by rw [hm];rfl
  rw [hv] at hs
  cases hq:bU x.1 x.2 ((a+b+1) / 2) with
  | true =>
   rw [hq] at hs
   repeat' (first |refine u1 ?_ |fail)
   refine ⟨((a+b+1) / 2,b),⟨⟨by dsimp only;omega,hb⟩,hq,h2⟩,(by dsimp only;omega),?_⟩
   exact ah.to 0 rfl ⟨rfl,aR hm,rfl,trivial⟩ (Nat.zero_le _) rfl rfl
  | false =>
   rw [hq] at hs
   repeat' (first |refine u1 ?_ |fail)
   refine ⟨(a,(a+b+1) / 2 - 1),⟨⟨by dsimp only;omega,by dsimp only;omega⟩,h1,fun d h3 h4=>?_⟩,(by dsimp only;omega),?_⟩
   ·dsimp only at h3
    cases hd:bU x.1 x.2 d with
    | false=>rfl
    | true =>
     rw [iQ hc.1 (Int.le_refl _) hr.1 (Int.le_refl _) (show (a+b+1) / 2≤d by omega) hd] at hq
     cases hq
   ·exact ah.to 0 rfl ⟨rfl,rfl,aR (by dsimp only;omega),trivial⟩ (Nat.zero_le _) rfl rfl
 ·have hab':a=b:=by omega
  subst hab'
  have d1:decide ((a:Int) < (a:Int))=false:=decide_eq_false (by omega)
  have:most (bU x.1 x.2) 60000=a:=yP hb h1 h2 hz
  rw [←hM,this]
  repeat' (first |refine u1 ?_ |fail)
  exact ⟨[_],⟨Fz.deep rfl,trivial⟩,rfl⟩
theorem Gr (x:Int × Int):0≤bE x∧bE x≤60000:=by
 unfold bE gn
 have:=Av (bU x.1 x.2) 60000
 omega
def D6 (v:Int × Int→Int) (L:List (Int × Int)):Int:=L.foldl (fun a x=>min a (v x)) 60000
def wW (v:Int × Int→Int) (L:List (Int × Int)):Int:=L.foldl (fun a x=>max a (v x)) 0
theorem CM (v:Int × Int→Int) (L:List (Int × Int)) (x:Int × Int):D6 v (L++[x])=min (D6 v L) (v x):=by unfold D6;rw [List.foldl_append];rfl
theorem y7 (v:Int × Int→Int) (L:List (Int × Int)) (x:Int × Int):wW v (L++[x])=max (wW v L) (v x):=by unfold wW;rw [List.foldl_append];rfl
theorem JU {v:Int × Int→Int} (hv:∀ x,0≤v x∧v x≤60000):∀ {L:List (Int × Int)},L ≠ []→(aH v L).1=⟨D6 v L,wW v L⟩:=by
 intro L
 induction hn:L.length generalizing L with
 | zero=>intro h;exact absurd (List.length_eq_zero_iff.1 hn) h
 | succ n ih =>
  intro hL
  obtain ⟨l,x,rfl⟩:∃ l x,L=l++[x]:=⟨L.dropLast,L.getLast hL,(List.dropLast_concat_getLast hL).symm⟩
  have hx:=hv x
  rw [CM,y7]
  cases l with
  | nil =>
   rw [List.nil_append,mT]
   show (⟨v x,v x⟩:Span)=⟨min 60000 (v x),max 0 (v x)⟩
   rw [show min 60000 (v x)=v x by omega,show max 0 (v x)=v x by omega]
  | cons a l =>
   have:=ih (L:=a :: l) (by simp at hn;simp;omega) (by simp)
   rw [mS]
   unfold e9
   rw [dI v (by simp),this]
   simp
theorem Ll (one:Bool) (s:au) (h:s.Ok) (n:aA) (rs:List av) (f:Bool) (hr:rs.length≤maxLen) :
  Pu one 36 [.ag (ay s),.ag (aC n),.sl (rs.map aj) f] (.tp [ai (qR s n rs).1,ai (qR s n rs).2.1,ai (qR s n rs).2.2]):=by
 have hen:=iu one s h n rs f hr
 have hkn:=iw one s n rs f false (aD s n rs).2 (fun h=>cc h)
 unfold qR
 by_cases e0:(aD s n rs).2=0
 ·rw [if_neg (by omega)]
  have ho:=cc e0
  have hmem:∀ x ∈ cZ s n rs,(0≤x.1∧x.1≤5000)∧0≤x.2∧x.2≤300:=fun x hx=>gR ho hx
  rw [e0] at hen hkn
  rw [←mQ] at *
  have d0:(!decide ((0:Int)=0))=false:=by decide
  by_cases hL:aJ s n rs false=[]
  ·rw [kR hL] at hkn
   rw [hL,mU]
   have d9:(!decide ((9:Int)=0))=true:=by decide
   refine af.body (fn:=Tryz.f36) rfl rfl rfl rfl ?_
   refine aa (mu:=fun _=>false) ?_
   repeat' (first |refine u1 ?_ |fail)
   exact ⟨[_,_,_],⟨Fz.deep rfl,Fz.deep rfl,Fz.deep rfl,trivial⟩,rfl⟩
  ·rw [oS hL] at hkn
   unfold Fg
   rw [if_neg (by rw [dI _ hL];simp),JU Gr hL]
   have hlen:(aJ s n rs false).length≤100000:=by
    unfold aJ
    exact Nat.le_trans (List.length_filter_le _ _) (jQ ho false)
   generalize aJ s n rs false=L at *
   have el:((L.map eP).length:Int)=L.length:=by simp
   refine af.body (fn:=Tryz.f36) rfl rfl rfl rfl ?_
   refine aa (mu:=fun _=>false) ?_
   repeat' (first |refine u1 ?_ |fail)
   refine ax.aK (ah.to (l:=[(11,.sl (L.map eP) false),(12,ai (D6 bE (L.take 0))),(13,ai (wW bE (L.take 0))),(14,ai (0:Nat))]) (hp:=[]) 0 rfl ⟨rfl,rfl,rfl,rfl,trivial⟩ (Nat.zero_le _) rfl rfl) ?_
   refine ax.loop (fun k:Nat=>k≤L.length) (fun k=>⟨aF [(11,.sl (L.map eP) false),(12,ai (D6 bE (L.take k))),(13,ai (wW bE (L.take k))),(14,ai (k:Nat))],[],aV.none,false,0⟩) (fun k=>L.length - k) ?_ 0 (Nat.zero_le _)
   intro k hk
   refine aa (mu:=fun _=>false) ?_
   by_cases hlt:k < L.length
   ·have d1:decide ((k:Int) < ((L.map eP).length:Int))=true:=decide_eq_true (by omega)
    have hat:(L.map eP)[((k:Nat):Int).toNat]?=some (eP L[k]):=bO hlt
    have hte:=eN (List.getElem?_eq_getElem hlt)
    have hxb:=hmem _ (List.getElem_mem hlt)
    have hre:=CL one L[k] hxb.1 hxb.2
    have e1:=CM bE (L.take k) L[k]
    have e2:=y7 bE (L.take k) L[k]
    rw [←hte] at e1 e2
    rw [show gn L[k].1 L[k].2=bE L[k] from rfl] at hre
    generalize L[k]=x at *
    generalize bE x=R at *
    repeat' (first |refine u1 ?_ |fail)
    refine ⟨k+1,hlt,(by dsimp only;omega),?_⟩
    show ah _ ⟨aF [(11,.sl (L.map eP) false),(12,ai (D6 bE (L.take (k+1)))),(13,ai (wW bE (L.take (k+1)))),(14,ai ((k+1):Nat))],[],aV.none,false,0⟩
    rw [e1,e2]
    exact ah.to 0 rfl ⟨rfl,rfl,rfl,aR (by simp),trivial⟩ (Nat.zero_le _) rfl rfl
   ·have d1:decide ((k:Int) < ((L.map eP).length:Int))=false:=decide_eq_false (by omega)
    have hkl:k=L.length:=by omega
    subst hkl
    rw [List.take_length]
    repeat' (first |refine u1 ?_ |fail)
    exact ⟨[_,_,_],⟨Fz.deep rfl,Fz.deep rfl,Fz.deep rfl,trivial⟩,rfl⟩
 ·rw [if_pos (by omega)]
  rw [iS e0] at hkn
  generalize aD s n rs=z at *
  have d0:(!decide (z.2=0))=true:=by rw [decide_eq_false e0];rfl
  refine af.body (fn:=Tryz.f36) rfl rfl rfl rfl ?_
  refine aa (mu:=fun _=>false) ?_
  repeat' (first |refine u1 ?_ |fail)
  exact ⟨[_,_,_],⟨Fz.deep rfl,Fz.deep rfl,Fz.deep rfl,trivial⟩,rfl⟩
def k6 (p:Int × Int→Bool) (L:List (Int × Int)):Nat:=(L.filter p).length
theorem y8 (p:Int × Int→Bool) (L:List (Int × Int)) (x:Int × Int):k6 p (L++[x])=if p x=true then k6 p L+1 else k6 p L:=by
 unfold k6
 rw [List.filter_append]
 cases h:p x <;> simp [h]
theorem Fj (p:Int × Int→Bool) (L:List (Int × Int)):k6 p L≤L.length:=List.length_filter_le _ _
def nY (c len:Nat):Int:=if c=0 then 0 else if c=len then 2 else 1
theorem Is (p:Int × Int→Bool):∀ {L:List (Int × Int)},L ≠ []→(aH (fun x=>if p x=true then 1 else 0) L).1=⟨if k6 p L=L.length then 1 else 0,if k6 p L=0 then 0 else 1⟩:=by
 intro L
 induction hn:L.length generalizing L with
 | zero=>intro h;exact absurd (List.length_eq_zero_iff.1 hn) h
 | succ n ih =>
  intro hL
  obtain ⟨l,x,rfl⟩:∃ l x,L=l++[x]:=⟨L.dropLast,L.getLast hL,(List.dropLast_concat_getLast hL).symm⟩
  have hcl:=Fj p l
  rw [y8]
  cases l with
  | nil =>
   rw [List.nil_append,mT]
   simp only [List.nil_append,List.length_singleton] at hn
   cases h:p x <;> simp [k6,←hn]
  | cons a l =>
   have hl:(a :: l).length=n:=by simp at hn;simp;omega
   have:=ih (L:=a :: l) hl (by simp)
   rw [mS]
   unfold e9
   rw [dI _ (by simp),this]
   rw [hl] at hcl
   generalize k6 p (a :: l)=c at *
   have hn0:n ≠ 0:=by rw [←hl];simp
   have hl2:(a :: l++[x]).length=n+1:=hn
   dsimp only
   rw [Span.mk.injEq]
   cases h:p x with
   | true =>
    simp only [if_true]
    constructor
    ·(repeat' split) <;> omega
    ·(repeat' split) <;> omega
   | false =>
    simp only [Bool.false_eq_true,if_false,if_true]
    constructor
    ·(repeat' split) <;> omega
    ·(repeat' split) <;> omega
theorem y9 (p:Int × Int→Bool) {L:List (Int × Int)} (hL:L ≠ []):i7 (aH (fun x=>if p x=true then 1 else 0) L)=(nY (k6 p L) L.length,0):=by
 unfold i7
 rw [if_neg (by rw [dI _ hL];simp),Is p hL]
 unfold nY
 have hl:L.length ≠ 0:=fun h=>hL (List.length_eq_zero_iff.1 h)
 by_cases h1:k6 p L=0
 ·rw [if_pos h1,if_pos h1,if_neg (by omega)];rfl
 ·by_cases h2:k6 p L=L.length
  ·rw [if_neg h1,if_neg h1,if_pos h2,if_pos h2];rfl
  ·rw [if_neg h1,if_neg h1,if_neg h2,if_neg h2];rfl
theorem za {s:au} {n:aA} {rs:List av} {p:Pt} {aB:Bool} (h0:(aD s n rs).2=0) (hw:fN p 30000=true) :
  iy s n rs p aB=if aJ s n rs aB=[] then (0,9) else (nY (k6 (fun x=>jn n p x aB) (aJ s n rs aB)) (aJ s n rs aB).length,0):=by
 unfold iy
 rw [if_neg (by omega),D2,hw,if_neg (by simp)]
 cases aB with
 | true =>
  rw [if_pos rfl,←wV]
  by_cases hL:aJ s n rs true=[]
  ·rw [if_pos hL,hL];rfl
  ·rw [if_neg hL];exact y9 (fun x=>jn n p x true) hL
 | false =>
  rw [if_neg (by simp),←mQ]
  by_cases hL:aJ s n rs false=[]
  ·rw [if_pos hL,hL];rfl
  ·rw [if_neg hL];exact y9 (fun x=>jn n p x false) hL
theorem D7 {s:au} {n:aA} {rs:List av} {p:Pt} {aB:Bool} (h0:(aD s n rs).2 ≠ 0):iy s n rs p aB=(0,(aD s n rs).2):=by unfold iy;rw [if_pos h0]
theorem D8 {s:au} {n:aA} {rs:List av} {p:Pt} {aB:Bool} (h0:(aD s n rs).2=0) (hw:fN p 30000=false):iy s n rs p aB=(0,7):=by
 unfold iy
 rw [if_neg (by omega),D2,hw,if_pos (by simp)]
theorem It (one:Bool) (s:au) (h:s.Ok) (n:aA) (rs:List av) (f:Bool) (hr:rs.length≤maxLen) (p:Pt) (aB:Bool) :
  Pu one 34 [.ag (ay s),.ag (aC n),.sl (rs.map aj) f,.ag (oG p),BB aB] (.tp [ai (iy s n rs p aB).1,ai (iy s n rs p aB).2]):=by
 have hen:=iu one s h n rs f hr
 have hwi:=sN one p 30000 (by decide)
 have z00:decide ((0:Int)=0)=true:=by decide
 have d0:(!decide ((0:Int)=0))=false:=by decide
 have d9:(!decide ((9:Int)=0))=true:=by decide
 have d7:(!decide ((7:Int)=0))=true:=by decide
 by_cases e0:(aD s n rs).2=0
 ·have ho:=cc e0
  rw [e0] at hen
  cases hw:fN p 30000 with
  | false =>
   have hkn:=iw one s n rs f aB 7 (fun h=>absurd h (by decide))
   rw [iS (by decide)] at hkn
   rw [D8 e0 hw]
   rw [hw] at hwi
   refine af.body (fn:=Tryz.f34) rfl rfl rfl rfl ?_
   refine aa (mu:=fun _=>false) ?_
   repeat' (first |refine u1 ?_ |fail)
   exact ⟨[_,_],⟨Fz.deep rfl,Fz.deep rfl,trivial⟩,rfl⟩
  | true =>
   have hkn:=iw one s n rs f aB 0 (fun _=>ho)
   rw [za e0 hw]
   rw [hw] at hwi
   by_cases hL:aJ s n rs aB=[]
   ·rw [kR hL] at hkn
    rw [if_pos hL]
    refine af.body (fn:=Tryz.f34) rfl rfl rfl rfl ?_
    refine aa (mu:=fun _=>false) ?_
    repeat' (first |refine u1 ?_ |fail)
    exact ⟨[_,_],⟨Fz.deep rfl,Fz.deep rfl,trivial⟩,rfl⟩
   ·rw [oS hL] at hkn
    rw [if_neg hL]
    have hlen:(aJ s n rs aB).length≤100000:=by
     unfold aJ
     exact Nat.le_trans (List.length_filter_le _ _) (jQ ho aB)
    have hbn:∀ x ∈ aJ s n rs aB,qQ aB x:=fun x hx=>ho.LL (List.mem_filter.1 hx).1
    have hpx:-60000≤p.x - n.pos.x∧p.x - n.pos.x≤60000:=by
     have:=ho.x
     unfold fN at hw
     rw [Bool.and_eq_true,fF,fF] at hw
     omega
    have hpy:-60000≤p.y - n.pos.y∧p.y - n.pos.y≤60000:=by
     have:=ho.y
     unfold fN at hw
     rw [Bool.and_eq_true,fF,fF] at hw
     omega
    have hme:∀ x ∈ aJ s n rs aB,Pu true 93 [.ag (aC n),.ag (oG p),.ag (eP x),BB aB] (BB (jn n p x aB)):=fun x hx=>AQ true n p x aB hpx hpy (hbn x hx)
    generalize aJ s n rs aB=L at *
    generalize hqd:(fun x=>jn n p x aB)=q at *
    have hme:∀ x ∈ L,Pu true 93 [.ag (aC n),.ag (oG p),.ag (eP x),BB aB] (BB (q x)):=by subst hqd;exact hme
    clear hqd
    have el:((L.map eP).length:Int)=L.length:=by simp
    refine af.body (fn:=Tryz.f34) rfl rfl rfl rfl ?_
    refine aa (mu:=fun _=>false) ?_
    repeat' (first |refine u1 ?_ |fail)
    refine ax.aK (ah.to (l:=[(4,BB aB),(6,.pt (aC n) 0),(8,.pt (oG p) 0),(14,.sl (L.map eP) false),(15,ai (k6 q (L.take 0):Nat)),(16,ai (0:Nat))]) (hp:=[]) 0 rfl ⟨rfl,rfl,rfl,rfl,rfl,rfl,trivial⟩ (Nat.zero_le _) rfl rfl) ?_
    refine ax.loop (fun k:Nat=>k≤L.length) (fun k=>⟨aF [(4,BB aB),(6,.pt (aC n) 0),(8,.pt (oG p) 0),(14,.sl (L.map eP) false),(15,ai (k6 q (L.take k):Nat)),(16,ai (k:Nat))],[],aV.none,false,0⟩) (fun k=>L.length - k) ?_ 0 (Nat.zero_le _)
    intro k hk
    refine aa (mu:=fun _=>false) ?_
    have hck:=Fj q (L.take k)
    rw [List.length_take] at hck
    by_cases hlt:k < L.length
    ·have d1:decide ((k:Int) < ((L.map eP).length:Int))=true:=decide_eq_true (by omega)
     have hat:(L.map eP)[((k:Nat):Int).toNat]?=some (eP L[k]):=bO hlt
     have hm:=hme _ (List.getElem_mem hlt)
     have e1:=y8 q (L.take k) L[k]
     rw [←eN (List.getElem?_eq_getElem hlt)] at e1
     generalize L[k]=x at *
     cases hq:q x with
     | true =>
      rw [hq] at hm e1
      rw [if_pos rfl] at e1
      repeat' (first |refine u1 ?_ |refine u2 ?_ |fail)
      refine ⟨k+1,hlt,(by dsimp only;omega),?_⟩
      show ah _ ⟨aF [(4,BB aB),(6,.pt (aC n) 0),(8,.pt (oG p) 0),(14,.sl (L.map eP) false),(15,ai (k6 q (L.take (k+1)):Nat)),(16,ai ((k+1):Nat))],[],aV.none,false,0⟩
      rw [e1]
      exact ah.to 0 rfl ⟨rfl,rfl,rfl,rfl,aR (by simp),aR (by simp),trivial⟩ (Nat.zero_le _) rfl rfl
     | false =>
      rw [hq] at hm e1
      rw [if_neg (by simp)] at e1
      repeat' (first |refine u1 ?_ |refine u2 ?_ |fail)
      refine ⟨k+1,hlt,(by dsimp only;omega),?_⟩
      show ah _ ⟨aF [(4,BB aB),(6,.pt (aC n) 0),(8,.pt (oG p) 0),(14,.sl (L.map eP) false),(15,ai (k6 q (L.take (k+1)):Nat)),(16,ai ((k+1):Nat))],[],aV.none,false,0⟩
      rw [e1]
      exact ah.to 0 rfl ⟨rfl,rfl,rfl,rfl,rfl,aR (by simp),trivial⟩ (Nat.zero_le _) rfl rfl
    ·have d1:decide ((k:Int) < ((L.map eP).length:Int))=false:=decide_eq_false (by omega)
     have hkl:k=L.length:=by omega
     subst hkl
     rw [List.take_length]
     generalize k6 q L=c at *
     unfold nY
     by_cases h1:c=0
     ·have d2:decide ((c:Int)=0)=true:=decide_eq_true (by omega)
      rw [if_pos h1]
      repeat' (first |refine u1 ?_ |fail)
      exact ⟨[_,_],⟨Fz.deep rfl,Fz.deep rfl,trivial⟩,rfl⟩
     ·have d2:decide ((c:Int)=0)=false:=decide_eq_false (by omega)
      rw [if_neg h1]
      by_cases h2:c=L.length
      ·have d3:decide ((c:Int)=((L.map eP).length:Int))=true:=decide_eq_true (by omega)
       rw [if_pos h2]
       repeat' (first |refine u1 ?_ |fail)
       exact ⟨[_,_],⟨Fz.deep rfl,Fz.deep rfl,trivial⟩,rfl⟩
      ·have d3:decide ((c:Int)=((L.map eP).length:Int))=false:=decide_eq_false (by omega)
       rw [if_neg h2]
       repeat' (first |refine u1 ?_ |fail)
       exact ⟨[_,_],⟨Fz.deep rfl,Fz.deep rfl,trivial⟩,rfl⟩
 ·have hkn:=iw one s n rs f aB (aD s n rs).2 (fun h=>absurd h e0)
  rw [iS e0] at hkn
  rw [D7 e0]
  generalize aD s n rs=z at *
  have d2:decide (z.2=0)=false:=decide_eq_false e0
  have d3:(!decide (z.2=0))=true:=by rw [d2];rfl
  refine af.body (fn:=Tryz.f34) rfl rfl rfl rfl ?_
  refine aa (mu:=fun _=>false) ?_
  repeat' (first |refine u1 ?_ |fail)
  exact ⟨[_,_],⟨Fz.deep rfl,Fz.deep rfl,trivial⟩,rfl⟩
end Go.Proofs.YtichbhmnhkegiaaGreat
open Go Go.RM Go.AirLaw
namespace Go.Proofs.YtichbhmnhkegiaaGreat
set_option maxRecDepth 100000
set_option maxHeartbeats 4000000
def nI (s:au) (n:aA) (g:Nat) (x:Int × Int):Int:=if (g:Int)=n.bK then x.1 else (gr s g).cand.lo
def uE (s:au) (n:aA) (L:List (Int × Int)) (far:Int) (g:Nat):Bool:=L.all fun x=>bz far 0 (nI s n g x) x.2
theorem zb {s:au} {g:Nat} (h:g < s.ak.length):(s.ak.map aL)[((g:Nat):Int).toNat]?=some (aL (gr s g)):=by
 unfold gr
 rw [Int.toNat_natCast,List.getElem?_map,List.getD,List.getElem?_eq_getElem h]
 rfl
theorem D9 {s:au} {g:Nat} (h:g < s.ak.length):gr s g ∈ s.ak:=by
 unfold gr
 rw [Int.toNat_natCast,List.getD,List.getElem?_eq_getElem h]
 exact List.getElem_mem h
theorem JV (one:Bool) {s:au} (n:aA) (hf:s.JK) (L:List (Int × Int)) (hL:∀ x ∈ L,(0≤x.1∧x.1≤5000)∧0≤x.2∧x.2≤300) (hlen:L.length≤100000) (g:Nat) (hg:g < s.ak.length) (far:Int) (hfar:0≤far∧far≤60000) :
  Pu one 57 [.ag (ay s),.ag (aC n),.sl (L.map eP) false,ai (g:Nat),ai far] (BB (uE s n L far g)):=by
 have el:((L.map eP).length:Int)=L.length:=by simp
 have hga:=zb hg
 have hc:=hf.cand _ (D9 hg)
 generalize hB:uE s n L far g=B
 unfold uE at hB
 refine af.body (fn:=Tryz.f57) rfl rfl rfl rfl ?_
 refine aa (mu:=fun _=>false) ?_
 repeat' (first |refine u1 ?_ |fail)
 refine ax.aK (ah.to (l:=[(2,.sl (L.map eP) false),(3,ai (g:Nat)),(4,ai far),(5,.pt (ay s) 0),(6,.pt (aC n) 0),(11,ai (0:Nat))]) (hp:=[]) 0 rfl ⟨rfl,rfl,rfl,rfl,rfl,rfl,trivial⟩ (Nat.zero_le _) rfl rfl) ?_
 refine ax.loop (fun k:Nat=>k≤L.length∧∀ i (h:i < L.length),i < k→bz far 0 (nI s n g L[i]) L[i].2=true) (fun k=>⟨aF [(2,.sl (L.map eP) false),(3,ai (g:Nat)),(4,ai far),(5,.pt (ay s) 0),(6,.pt (aC n) 0),(11,ai (k:Nat))],[],aV.none,false,0⟩) (fun k=>L.length - k) ?_ 0 ⟨Nat.zero_le _,fun i _ hi=>absurd hi (Nat.not_lt_zero _)⟩
 rintro k ⟨hk,hprev⟩
 refine aa (mu:=fun _=>false) ?_
 by_cases hlt:k < L.length
 ·have d1:decide ((k:Int) < ((L.map eP).length:Int))=true:=decide_eq_true (by omega)
  have hat:(L.map eP)[((k:Nat):Int).toNat]?=some (eP L[k]):=bO hlt
  have hxb:=hL _ (List.getElem_mem hlt)
  have hno:bz far 0 (nI s n g L[k]) L[k].2=false→B=false:=by
   intro q
   rw [←hB,List.all_eq_false]
   exact ⟨L[k],List.getElem_mem hlt,by rw [q];decide⟩
  have hone:bz far 0 (nI s n g L[k]) L[k].2=true→(∀ i (h:i < L.length),i < k+1→bz far 0 (nI s n g L[i]) L[i].2=true):=by
   intro q i hi hik
   by_cases e:i=k
   ·subst e;exact q
   ·exact hprev i hi (by omega)
  clear hB hprev
  have hse:∀ c:Int,0≤c∧c≤5000→Pu one 65 [.ag (oG ⟨far,0⟩),ai c,ai L[k].2] (BB (bz far 0 c L[k].2)):=fun c hc=>AK one ⟨far,0⟩ c L[k].2 (by dsimp only;omega) (by dsimp only;omega) hc hxb.2
  generalize L[k]=x at *
  unfold nI at hno hone
  by_cases hgn:(g:Int)=n.bK
  ·have dg:(!decide ((g:Int)=n.bK))=false:=by rw [decide_eq_true hgn];rfl
   rw [if_pos hgn] at hno
   simp only [if_pos hgn] at hone
   have hs:=hse x.1 hxb.1
   cases hq:bz far 0 x.1 x.2 with
   | true =>
    rw [hq] at hs
    repeat' (first |refine u1 ?_ |fail)
    exact ⟨k+1,⟨hlt,by unfold nI;simp only [if_pos hgn];exact hone hq⟩,(by dsimp only;omega),ah.to 0 rfl ⟨rfl,rfl,rfl,rfl,rfl,aR (by simp),trivial⟩ (Nat.zero_le _) rfl rfl⟩
   | false =>
    rw [hq] at hs
    rw [hno hq]
    repeat' (first |refine u1 ?_ |fail)
    exact ⟨[_],⟨Fz.deep rfl,trivial⟩,rfl⟩
  ·have dg:(!decide ((g:Int)=n.bK))=true:=by rw [decide_eq_false hgn];rfl
   rw [if_neg hgn] at hno
   simp only [if_neg hgn] at hone
   have hs:=hse (gr s g).cand.lo (by omega)
   cases hq:bz far 0 (gr s g).cand.lo x.2 with
   | true =>
    rw [hq] at hs
    repeat' (first |refine u1 ?_ |fail)
    exact ⟨k+1,⟨hlt,by unfold nI;simp only [if_neg hgn];exact hone hq⟩,(by dsimp only;omega),ah.to 0 rfl ⟨rfl,rfl,rfl,rfl,rfl,aR (by simp),trivial⟩ (Nat.zero_le _) rfl rfl⟩
   | false =>
    rw [hq] at hs
    rw [hno hq]
    repeat' (first |refine u1 ?_ |fail)
    exact ⟨[_],⟨Fz.deep rfl,trivial⟩,rfl⟩
 ·have d1:decide ((k:Int) < ((L.map eP).length:Int))=false:=decide_eq_false (by omega)
  have hyes:B=true:=by
   rw [←hB,List.all_eq_true]
   intro x hx
   obtain ⟨i,hi,rfl⟩:=List.getElem_of_mem hx
   exact hprev i hi (by omega)
  rw [hyes]
  repeat' (first |refine u1 ?_ |fail)
  exact ⟨[_],⟨Fz.deep rfl,trivial⟩,rfl⟩
def eu (fE:Nat→Int) (D:Nat→Bool):Nat→Int
 | 0=>-1
 | k+1=>if D k=true∧(eu fE D k < 0∨fE k < fE (eu fE D k).toNat) then (k:Nat) else eu fE D k
theorem CN (fE:Nat→Int) (D:Nat→Bool):∀ k,-1≤eu fE D k∧eu fE D k < k
 | 0=>by unfold eu;omega
 | k+1=>by
  have:=CN fE D k
  unfold eu
  split <;> omega
def dD (s:au) (k:Nat):Int:=(gr s k).fE
def Fk (s:au) (n:aA) (L:List (Int × Int)) (far:Int):Int:=eu (dD s) (uE s n L far) s.ak.length
def nJ (s:au) (n:aA) (rs:List av) (far:Int):Int × Int :=
 if (aD s n rs).2 ≠ 0 then (0,(aD s n rs).2)
 else if aX 0 60000 [far]=true then (0,7)
 else if aJ s n rs false=[] then (0,9)
 else if Fk s n (aJ s n rs false) far < 0 then (0,9)
 else (Fk s n (aJ s n rs false) far,0)
theorem Iu (one:Bool) (s:au) (h:s.Ok) (n:aA) (rs:List av) (f:Bool) (hr:rs.length≤maxLen) (far:Int) :
  Pu one 38 [.ag (ay s),.ag (aC n),.sl (rs.map aj) f,ai far] (.tp [ai (nJ s n rs far).1,ai (nJ s n rs far).2]):=by
 have hen:=iu one s h n rs f hr
 have hfi:=jy one far 0 60000
 have z00:decide ((0:Int)=0)=true:=by decide
 have d0:(!decide ((0:Int)=0))=false:=by decide
 have d9:(!decide ((9:Int)=0))=true:=by decide
 have d7:(!decide ((7:Int)=0))=true:=by decide
 unfold nJ
 rw [cQ]
 by_cases e0:(aD s n rs).2=0
 ·have ho:=cc e0
  rw [e0] at hen
  rw [if_neg (by omega)]
  cases hw:kN far 0 60000 with
  | false =>
   have hkn:=iw one s n rs f false 7 (fun h=>absurd h (by decide))
   rw [iS (by decide)] at hkn
   rw [hw] at hfi
   rw [if_pos (by decide)]
   refine af.body (fn:=Tryz.f38) rfl rfl rfl rfl ?_
   refine aa (mu:=fun _=>false) ?_
   repeat' (first |refine u1 ?_ |fail)
   exact ⟨[_,_],⟨Fz.deep rfl,Fz.deep rfl,trivial⟩,rfl⟩
  | true =>
   have hkn:=iw one s n rs f false 0 (fun _=>ho)
   rw [hw] at hfi
   rw [if_neg (by decide)]
   by_cases hL:aJ s n rs false=[]
   ·rw [kR hL] at hkn
    rw [if_pos hL]
    refine af.body (fn:=Tryz.f38) rfl rfl rfl rfl ?_
    refine aa (mu:=fun _=>false) ?_
    repeat' (first |refine u1 ?_ |fail)
    exact ⟨[_,_],⟨Fz.deep rfl,Fz.deep rfl,trivial⟩,rfl⟩
   ·rw [oS hL] at hkn
    rw [if_neg hL]
    have hlen:(aJ s n rs false).length≤100000:=by
     unfold aJ
     exact Nat.le_trans (List.length_filter_le _ _) (jQ ho false)
    have hmem:∀ x ∈ aJ s n rs false,(0≤x.1∧x.1≤5000)∧0≤x.2∧x.2≤300:=fun x hx=>gR ho hx
    have hdo:=fun g hg=>JV true n ho.gU _ hmem hlen g hg far (fF.1 hw)
    have h4:=ho.gU.len
    generalize aJ s n rs false=L at *
    unfold Fk
    generalize hDD:uE s n L far=D at *
    have eg:((s.ak.map aL).length:Int)=s.ak.length:=by simp
    refine af.body (fn:=Tryz.f38) rfl rfl rfl rfl ?_
    refine aa (mu:=fun _=>false) ?_
    repeat' (first |refine u1 ?_ |fail)
    refine ax.aK (ah.to (l:=[(3,ai far),(4,.pt (ay s) 0),(5,.pt (aC n) 0),(12,.sl (L.map eP) false),(13,ai (eu (dD s) D 0)),(14,ai (0:Nat))]) (hp:=[]) 0 rfl ⟨rfl,rfl,rfl,rfl,rfl,rfl,trivial⟩ (Nat.zero_le _) rfl rfl) ?_
    refine ax.loop (fun k:Nat=>k≤s.ak.length) (fun k=>⟨aF [(3,ai far),(4,.pt (ay s) 0),(5,.pt (aC n) 0),(12,.sl (L.map eP) false),(13,ai (eu (dD s) D k)),(14,ai (k:Nat))],[],aV.none,false,0⟩) (fun k=>s.ak.length - k) ?_ 0 (Nat.zero_le _)
    intro k hk
    have hbi:=CN (dD s) D k
    refine aa (mu:=fun _=>false) ?_
    by_cases hlt:k < s.ak.length
    ·have d1:decide ((k:Int) < ((s.ak.map aL).length:Int))=true:=decide_eq_true (by omega)
     have hat:=zb hlt
     have hd:=hdo k hlt
     have hbs:eu (dD s) D (k+1)=if D k=true∧(eu (dD s) D k < 0∨dD s k < dD s (eu (dD s) D k).toNat) then ((k:Nat):Int) else eu (dD s) D k:=rfl
     generalize hB:eu (dD s) D k=B at *
     cases hD:D k with
     | false =>
      rw [hD] at hd
      rw [if_neg (by rw [hD];simp)] at hbs
      repeat' (first |refine u1 ?_ |refine u2 ?_ |fail)
      refine ⟨k+1,hlt,(by dsimp only;omega),?_⟩
      show ah _ ⟨aF [(3,ai far),(4,.pt (ay s) 0),(5,.pt (aC n) 0),(12,.sl (L.map eP) false),(13,ai (eu (dD s) D (k+1))),(14,ai ((k+1):Nat))],[],aV.none,false,0⟩
      rw [hbs]
      exact ah.to 0 rfl ⟨rfl,rfl,rfl,rfl,rfl,aR (by simp),trivial⟩ (Nat.zero_le _) rfl rfl
     | true =>
      rw [hD] at hd
      by_cases hb0:B < 0
      ·have d2:decide (B < 0)=true:=decide_eq_true hb0
       rw [if_pos ⟨hD,.inl hb0⟩] at hbs
       repeat' (first |refine u1 ?_ |refine u2 ?_ |fail)
       refine ⟨k+1,hlt,(by dsimp only;omega),?_⟩
       show ah _ ⟨aF [(3,ai far),(4,.pt (ay s) 0),(5,.pt (aC n) 0),(12,.sl (L.map eP) false),(13,ai (eu (dD s) D (k+1))),(14,ai ((k+1):Nat))],[],aV.none,false,0⟩
       rw [hbs]
       exact ah.to 0 rfl ⟨rfl,rfl,rfl,rfl,rfl,aR (by simp),trivial⟩ (Nat.zero_le _) rfl rfl
      ·have d2:decide (B < 0)=false:=decide_eq_false hb0
       obtain ⟨j,hj⟩:∃ j:Nat,B=j:=⟨B.toNat,by omega⟩
       have hatj:=zb (s:=s) (g:=j) (by omega)
       rw [←hj] at hatj
       have e1:dD s B.toNat=(gr s (j:Nat)).fE:=by rw [hj,Int.toNat_natCast];rfl
       rw [e1] at hbs
       have e2:dD s k=(gr s (k:Nat)).fE:=rfl
       rw [e2] at hbs
       by_cases hoil:(gr s (k:Nat)).fE < (gr s (j:Nat)).fE
       ·have d3:=decide_eq_true hoil
        rw [if_pos ⟨hD,.inr hoil⟩] at hbs
        rw [←hj] at *
        repeat' (first |refine u1 ?_ |refine u2 ?_ |fail)
        refine ⟨k+1,hlt,(by dsimp only;omega),?_⟩
        show ah _ ⟨aF [(3,ai far),(4,.pt (ay s) 0),(5,.pt (aC n) 0),(12,.sl (L.map eP) false),(13,ai (eu (dD s) D (k+1))),(14,ai ((k+1):Nat))],[],aV.none,false,0⟩
        rw [hbs]
        exact ah.to 0 rfl ⟨rfl,rfl,rfl,rfl,rfl,aR (by simp),trivial⟩ (Nat.zero_le _) rfl rfl
       ·have d3:=decide_eq_false hoil
        rw [if_neg (by rintro ⟨_,h|h⟩;exact hb0 h;exact hoil h)] at hbs
        rw [←hj] at *
        repeat' (first |refine u1 ?_ |refine u2 ?_ |fail)
        refine ⟨k+1,hlt,(by dsimp only;omega),?_⟩
        show ah _ ⟨aF [(3,ai far),(4,.pt (ay s) 0),(5,.pt (aC n) 0),(12,.sl (L.map eP) false),(13,ai (eu (dD s) D (k+1))),(14,ai ((k+1):Nat))],[],aV.none,false,0⟩
        rw [hbs]
        exact ah.to 0 rfl ⟨rfl,rfl,rfl,rfl,rfl,aR (by simp),trivial⟩ (Nat.zero_le _) rfl rfl
    ·have d1:decide ((k:Int) < ((s.ak.map aL).length:Int))=false:=decide_eq_false (by omega)
     have hkl:k=s.ak.length:=by omega
     subst hkl
     generalize eu (dD s) D s.ak.length=B at *
     by_cases hb0:B < 0
     ·have d2:decide (B < 0)=true:=decide_eq_true hb0
      rw [if_pos hb0]
      repeat' (first |refine u1 ?_ |fail)
      exact ⟨[_,_],⟨Fz.deep rfl,Fz.deep rfl,trivial⟩,rfl⟩
     ·have d2:decide (B < 0)=false:=decide_eq_false hb0
      rw [if_neg hb0]
      repeat' (first |refine u1 ?_ |fail)
      exact ⟨[_,_],⟨Fz.deep rfl,Fz.deep rfl,trivial⟩,rfl⟩
 ·have hkn:=iw one s n rs f false (aD s n rs).2 (fun h=>absurd h e0)
  rw [iS e0] at hkn
  rw [if_pos e0]
  generalize aD s n rs=z at *
  have d2:decide (z.2=0)=false:=decide_eq_false e0
  have d3:(!decide (z.2=0))=true:=by rw [d2];rfl
  refine af.body (fn:=Tryz.f38) rfl rfl rfl rfl ?_
  refine aa (mu:=fun _=>false) ?_
  repeat' (first |refine u1 ?_ |fail)
  exact ⟨[_,_],⟨Fz.deep rfl,Fz.deep rfl,trivial⟩,rfl⟩
end Go.Proofs.YtichbhmnhkegiaaGreat
