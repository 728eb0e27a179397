/-
  Contracts of the program's functions and of the document's. Lemmas alone; their conditions stand in them.
-/
import Derived.Test.YtichbhmnhkegiaaGreatA3
import Derived.Test.YtichbhmnhkegiaaGreatK7
import Derived.Test.YtichbhmnhkegiaaGreatK12
open Go Go.RM Go.AirLaw
namespace Go.Proofs.YtichbhmnhkegiaaGreat
set_option maxRecDepth 100000
set_option maxHeartbeats 4000000
theorem mS (v:Int × Int→Int) (L:List (Int × Int)) (x:Int × Int):aH v (L++[x])=e9 v (aH v L) x:=by
 unfold aH
 rw [List.foldl_append]
 rfl
theorem mT (v:Int × Int→Int) (x:Int × Int):aH v [x]=(⟨v x,v x⟩,true):=by
 unfold aH e9
 simp
theorem dI (v:Int × Int→Int):∀ {L:List (Int × Int)},L ≠ []→(aH v L).2=true:=by
 intro L hL
 obtain ⟨l,x,rfl⟩:∃ l x,L=l++[x]:=⟨L.dropLast,L.getLast hL,(List.dropLast_concat_getLast hL).symm⟩
 rw [mS]
 rfl
theorem CK (v:Int × Int→Int) (x:Int × Int) (L:List (Int × Int)):aH v (x :: x :: L)=aH v (x :: L):=by
 unfold aH
 rw [List.foldl_cons,List.foldl_cons,List.foldl_cons]
 congr 1
 unfold e9
 simp
theorem mU (v:Int × Int→Int):aH v []=(xp,false):=rfl
theorem AW {v:Int × Int→Int} {L:List (Int × Int)} {x:Int × Int} {k:Nat} (hx:L[k]?=some x) {y:Int × Int}:(aH v (y :: L.take (k+1))).1=⟨min (aH v (y :: L.take k)).1.lo (v x),max (aH v (y :: L.take k)).1.hi (v x)⟩:=by
 rw [eN hx,←List.cons_append,mS]
 unfold e9
 rw [dI v (by simp)]
 rfl
theorem iS {s:au} {n:aA} {rs:List av} {aB:Bool} {e:Int} (h:e ≠ 0):nH s n rs aB e=([],e):=by unfold nH;rw [if_pos h]
theorem kR {s:au} {n:aA} {rs:List av} {aB:Bool} (h:aJ s n rs aB=[]):nH s n rs aB 0=([],9):=by unfold nH;rw [if_neg (by omega),if_pos h]
theorem oS {s:au} {n:aA} {rs:List av} {aB:Bool} (h:aJ s n rs aB ≠ []):nH s n rs aB 0=(aJ s n rs aB,0):=by unfold nH;rw [if_neg (by omega),if_neg h]
theorem Im (one:Bool) (s:au) (h:s.Ok) (n:aA) (rs:List av) (f:Bool) (hr:rs.length≤maxLen) :
  Pu one 29 [.ag (ay s),.ag (aC n),.sl (rs.map aj) f] (.tp [.ag (aG (iR s n rs).1),.ag (aG (iR s n rs).2.1),ai (iR s n rs).2.2]):=by
 have hen:=iu one s h n rs f hr
 have hkn:=iw one s n rs f false (aD s n rs).2 (fun h=>cc h)
 unfold iR
 by_cases e0:(aD s n rs).2=0
 ·rw [if_neg (by omega)]
  have ho:=cc e0
  rw [e0] at hen hkn
  rw [←mQ]
  have d0:(!decide ((0:Int)=0))=false:=by decide
  by_cases hL:aJ s n rs false=[]
  ·rw [kR hL] at hkn
   rw [hL,mU,if_pos rfl]
   have d9:(!decide ((9:Int)=0))=true:=by decide
   refine af.body (fn:=Tryz.f29) rfl rfl rfl rfl ?_
   refine aa (mu:=fun _=>false) ?_
   repeat' (first |refine u1 ?_ |refine u2 ?_ |fail)
   exact ⟨[_,_,_],⟨Fz.deep rfl,Fz.deep rfl,Fz.deep rfl,trivial⟩,rfl⟩
  ·rw [oS hL] at hkn
   rw [if_neg (by rw [dI _ hL];simp)]
   have hlen:(aJ s n rs false).length≤100000:=by
    unfold aJ
    exact Nat.le_trans (List.length_filter_le _ _) (jQ ho false)
   generalize aJ s n rs false=L at *
   obtain ⟨x0,h0,hx0⟩:∃ x0,L[0]?=some x0∧∀ v:Int × Int→Int,aH v L=aH v (x0 :: L):=by
    cases L with
    | nil=>exact absurd rfl hL
    | cons a l=>exact ⟨a,rfl,fun v=>(CK v a l).symm⟩
   have el:((L.map eP).length:Int)=L.length:=by simp
   rw [hx0 Prod.fst,hx0 Prod.snd]
   have hat0:(L.map eP)[(0:Int).toNat]?=some (eP x0):=by
    show (L.map eP)[0]?=_
    rw [List.getElem?_map,h0];rfl
   clear hx0
   refine af.body (fn:=Tryz.f29) rfl rfl rfl rfl ?_
   refine aa (mu:=fun _=>false) ?_
   repeat' (first |refine u1 ?_ |refine u2 ?_ |fail)
   refine ax.aK (ah.to (l:=[(6,.ptr 0 0 0),(7,.ptr 1 0 0),(11,.sl (L.map eP) false),(12,.ptr 2 0 0),(13,.ptr 3 0 0),(14,ai (0:Nat))]) (hp:=[.cells (aG xp) 0 0,.cells (aG xp) 0 0,.cells (aG (aH Prod.fst (x0 :: L.take 0)).1) 0 0,.cells (aG (aH Prod.snd (x0 :: L.take 0)).1) 0 0]) 4 (by rw [List.take_zero,mT,mT];rfl) ⟨rfl,rfl,rfl,rfl,rfl,rfl,trivial⟩ (Nat.zero_le _) rfl rfl) ?_
   refine ax.loop (fun k:Nat=>k≤L.length) (fun k=>⟨aF [(6,.ptr 0 0 0),(7,.ptr 1 0 0),(11,.sl (L.map eP) false),(12,.ptr 2 0 0),(13,.ptr 3 0 0),(14,ai (k:Nat))],[.cells (aG xp) 0 0,.cells (aG xp) 0 0,.cells (aG (aH Prod.fst (x0 :: L.take k)).1) 0 0,.cells (aG (aH Prod.snd (x0 :: L.take k)).1) 0 0],aV.none,false,0⟩) (fun k=>L.length - k) ?_ 0 (Nat.zero_le _)
   intro k hk
   refine aa (mu:=fun _=>false) ?_
   by_cases hlt:k < L.length
   ·have d1:decide ((k:Int) < ((L.map eP).length:Int))=true:=decide_eq_true (by omega)
    have hat:(L.map eP)[((k:Nat):Int).toNat]?=some (eP L[k]):=bO hlt
    have e1:=AW (v:=Prod.fst) (y:=x0) (List.getElem?_eq_getElem hlt)
    have e2:=AW (v:=Prod.snd) (y:=x0) (List.getElem?_eq_getElem hlt)
    generalize L[k]=x at *
    repeat' (first |refine u1 ?_ |refine u2 ?_ |fail)
    refine ⟨k+1,hlt,(by dsimp only;omega),?_⟩
    show ah _ ⟨aF [(6,.ptr 0 0 0),(7,.ptr 1 0 0),(11,.sl (L.map eP) false),(12,.ptr 2 0 0),(13,.ptr 3 0 0),(14,ai ((k+1):Nat))],[.cells (aG xp) 0 0,.cells (aG xp) 0 0,.cells (aG (aH Prod.fst (x0 :: L.take (k+1))).1) 0 0,.cells (aG (aH Prod.snd (x0 :: L.take (k+1))).1) 0 0],aV.none,false,0⟩
    rw [e1,e2]
    exact ah.to 4 rfl ⟨rfl,rfl,rfl,rfl,rfl,aR (by simp),trivial⟩ (Nat.zero_le _) rfl rfl
   ·have d1:decide ((k:Int) < ((L.map eP).length:Int))=false:=decide_eq_false (by omega)
    have hkl:k=L.length:=by omega
    subst hkl
    rw [List.take_length]
    repeat' (first |refine u1 ?_ |refine u2 ?_ |fail)
    exact ⟨[_,_,_],⟨Fz.deep rfl,Fz.deep rfl,Fz.deep rfl,trivial⟩,rfl⟩
 ·rw [if_pos (by omega)]
  rw [iS e0] at hkn
  generalize aD s n rs=z at *
  have d0:(!decide (z.2=0))=true:=by rw [decide_eq_false e0];rfl
  refine af.body (fn:=Tryz.f29) rfl rfl rfl rfl ?_
  refine aa (mu:=fun _=>false) ?_
  repeat' (first |refine u1 ?_ |refine u2 ?_ |fail)
  exact ⟨[_,_,_],⟨Fz.deep rfl,Fz.deep rfl,Fz.deep rfl,trivial⟩,rfl⟩
def xu (L:List (Int × Int)):List AV:=(List.range 32).map fun w=>BB (decide (0 < ir L w))
theorem AX (L:List (Int × Int)):(xu L).length=32:=by simp [xu]
theorem AY {L:List (Int × Int)} {w:Nat} (h:w < 32):(xu L)[w]?=some (BB (decide (0 < ir L w))):=by
 unfold xu
 rw [List.getElem?_map,List.getElem?_range h]
 rfl
theorem Lj (L:List (Int × Int)) (w:Nat):0≤ir L w:=by unfold ir;omega
theorem Ip {L:List (Int × Int)} {x:Int × Int} {w:Nat} (hx:x.2=(w:Int)) (h:w < 32):dG (xu L) [BB true] (0+((w:Nat):Int).toNat * 1)=xu (L++[x]):=by
 rw [Int.toNat_natCast,Nat.zero_add,Nat.mul_one]
 have hl:=AX L
 refine List.ext_getElem? fun i=>?_
 unfold dG
 by_cases hi:i < 32
 ·rw [AY hi,Cx]
  rcases Nat.lt_trichotomy i w with h1|h1|h1
  ·rw [List.append_assoc,List.getElem?_append_left (by rw [List.length_take];omega),List.getElem?_take_of_lt h1,AY hi,if_neg (by omega)]
  ·subst h1
   rw [List.append_assoc,List.getElem?_append_right (by rw [List.length_take];omega),if_pos hx]
   rw [List.length_take,Nat.min_eq_left (by omega),Nat.sub_self]
   have:=Lj L i
   rw [decide_eq_true (show 0 < ir L i+1 by omega)]
   rfl
  ·rw [List.getElem?_append_right (by simp;omega),if_neg (by omega)]
   rw [List.getElem?_drop]
   simp only [List.length_append,List.length_take,List.length_singleton]
   rw [Nat.min_eq_left (by omega),show w+1+(i - (w+1))=i by omega,AY hi]
 ·rw [List.getElem?_eq_none (by simp;omega),List.getElem?_eq_none (by rw [AX];omega)]
theorem Fi (n:Nat) (L:List (Int × Int)):iM n (xu L)=true:=by
 unfold xu
 generalize List.range 32=R
 induction R with
 | nil=>rfl
 | cons a l ih=>exact ih
theorem Iq (z:Span) (L:List (Int × Int)):([.cells (aG xp) 0 0,.cells (aG z) 0 0,.cells (xu L) 1 0]:List AB).all (AB.cJ 3)=true:=by
 have h:AB.cJ 3 (.cells (xu L) 1 0)=true:=Fi 3 L
 have h':AB.cJ 3 (.cells (aG xp) 0 0)=true:=rfl
 have h2:AB.cJ 3 (.cells (aG z) 0 0)=true:=rfl
 simp only [List.all_cons,List.all_nil,h,h',h2,Bool.and_true]
theorem D5 (z:Span) (L:List (Int × Int)) (M:List Int) (v:Nat):([.cells (aG xp) 0 0,.cells (aG z) 0 0,.cells (xu L) 1 0,.cells (M.map ai) 1 v]:List AB).all (AB.cJ 4)=true:=vi rfl rfl (show AB.cJ 4 (.cells (xu L) 1 0)=true from Fi 4 L) M v
theorem Ir (one:Bool) (s:au) (h:s.Ok) (n:aA) (rs:List av) (f:Bool) (hr:rs.length≤maxLen) :
  Pu one 31 [.ag (ay s),.ag (aC n),.sl (rs.map aj) f] (.tp [.ag (aG (fy s n rs).1),.sl ((fy s n rs).2.1.map eI) false,ai (fy s n rs).2.2]):=by
 have hen:=iu one s h n rs f hr
 have hkn:=iw one s n rs f true (aD s n rs).2 (fun h=>cc h)
 unfold fy
 by_cases e0:(aD s n rs).2=0
 ·rw [if_neg (by omega)]
  have ho:=cc e0
  rw [e0] at hen hkn
  have hmem:∀ x ∈ iq s n rs,(1≤x.1∧x.1≤200)∧0≤x.2∧x.2≤31:=fun x hx=>ho.hb x (List.mem_filter.1 hx).1
  rw [←wV] at *
  have d0:(!decide ((0:Int)=0))=false:=by decide
  by_cases hL:aJ s n rs true=[]
  ·rw [kR hL] at hkn
   rw [hL,mU,if_pos rfl]
   have d9:(!decide ((9:Int)=0))=true:=by decide
   refine af.body (fn:=Tryz.f31) rfl rfl rfl rfl ?_
   refine aa (mu:=fun _=>false) ?_
   repeat' (first |refine u1 ?_ |refine u2 ?_ |fail)
   exact ⟨[_,_,_],⟨Fz.deep rfl,Fz.nil,Fz.deep rfl,trivial⟩,rfl⟩
  ·rw [oS hL] at hkn
   rw [if_neg (by rw [dI _ hL];simp)]
   have hlen:(aJ s n rs true).length≤100000:=by
    unfold aJ
    exact Nat.le_trans (List.length_filter_le _ _) (jQ ho true)
   generalize aJ s n rs true=L at *
   obtain ⟨x0,h0,hx0⟩:∃ x0,L[0]?=some x0∧∀ v:Int × Int→Int,aH v L=aH v (x0 :: L):=by
    cases L with
    | nil=>exact absurd rfl hL
    | cons a l=>exact ⟨a,rfl,fun v=>(CK v a l).symm⟩
   have el:((L.map eP).length:Int)=L.length:=by simp
   rw [hx0 Prod.fst]
   have hat0:(L.map eP)[(0:Int).toNat]?=some (eP x0):=by
    show (L.map eP)[0]?=_
    rw [List.getElem?_map,h0];rfl
   clear hx0
   refine af.body (fn:=Tryz.f31) rfl rfl rfl rfl ?_
   refine aa (mu:=fun _=>false) ?_
   repeat' (first |refine u1 ?_ |refine u2 ?_ |fail)
   refine ax.aK (ah.to (l:=[(6,.ptr 0 0 0),(11,.sl (L.map eP) false),(12,.ptr 1 0 0),(13,.bg 2 0 0 32 32),(14,ai (0:Nat))]) (hp:=[.cells (aG xp) 0 0,.cells (aG (aH Prod.fst (x0 :: L.take 0)).1) 0 0,.cells (xu (L.take 0)) 1 0]) 3 (by rw [List.take_zero,mT];rfl) ⟨rfl,rfl,rfl,rfl,rfl,trivial⟩ (Nat.zero_le _) rfl (Iq _ _)) ?_
   refine ax.loop (fun k:Nat=>k≤L.length) (fun k=>⟨aF [(6,.ptr 0 0 0),(11,.sl (L.map eP) false),(12,.ptr 1 0 0),(13,.bg 2 0 0 32 32),(14,ai (k:Nat))],[.cells (aG xp) 0 0,.cells (aG (aH Prod.fst (x0 :: L.take k)).1) 0 0,.cells (xu (L.take k)) 1 0],aV.none,false,0⟩) (fun k=>L.length - k) ?_ 0 (Nat.zero_le _)
   intro k hk
   refine aa (mu:=fun _=>false) ?_
   by_cases hlt:k < L.length
   ·have d1:decide ((k:Int) < ((L.map eP).length:Int))=true:=decide_eq_true (by omega)
    have hat:(L.map eP)[((k:Nat):Int).toNat]?=some (eP L[k]):=bO hlt
    have e1:=AW (v:=Prod.fst) (y:=x0) (List.getElem?_eq_getElem hlt)
    have hxb:=hmem _ (List.getElem_mem hlt)
    have hte:=eN (List.getElem?_eq_getElem hlt)
    obtain ⟨w,hw⟩:∃ w:Nat,L[k].2=w:=⟨L[k].2.toNat,by omega⟩
    have hw32:w < 32:=by omega
    have hst:=Ip (L:=L.take k) hw hw32
    rw [←hte] at hst
    generalize L[k]=x at *
    obtain ⟨x1,x2⟩:=x
    dsimp only at hw
    subst hw
    have hln:Nat.ble (0+((w:Nat):Int).toNat * 1+1) (xu (L.take k)).length=true:=Nat.ble_eq_true_of_le (by rw [AX,Int.toNat_natCast];omega)
    repeat' (first |((with_reducible show dP _ _ _ _ _ _);refine RM.LK rfl rfl rfl rfl rfl rfl hln ?_) |refine u1 ?_ |refine u2 ?_ |fail)
    refine ⟨k+1,hlt,(by dsimp only;omega),?_⟩
    show ah _ ⟨aF [(6,.ptr 0 0 0),(11,.sl (L.map eP) false),(12,.ptr 1 0 0),(13,.bg 2 0 0 32 32),(14,ai ((k+1):Nat))],[.cells (aG xp) 0 0,.cells (aG (aH Prod.fst (x0 :: L.take (k+1))).1) 0 0,.cells (xu (L.take (k+1))) 1 0],aV.none,false,0⟩
    rw [e1,←hst]
    exact ah.to 3 rfl ⟨rfl,rfl,rfl,rfl,aR (by simp),trivial⟩ (Nat.zero_le _) rfl (by rw [hst];exact Iq _ _)
   ·have d1:decide ((k:Int) < ((L.map eP).length:Int))=false:=decide_eq_false (by omega)
    have hkl:k=L.length:=by omega
    subst hkl
    rw [List.take_length]
    generalize (aH Prod.fst (x0 :: L)).1=z at *
    clear hmem hat0
    repeat' (first |refine u1 ?_ |fail)
    refine ax.aK (ah.trans (ah.jw 1) (ah.GI (l:=[(6,.ptr 0 0 0),(12,.ptr 1 0 0),(13,.bg 2 0 0 32 32),(15,.bg 3 0 0 (aW L 0).length 0),(16,ai (0:Nat))]) (hp:=[.cells (aG xp) 0 0,.cells (aG z) 0 0,.cells (xu L) 1 0,.cells ((aW L 0).map ai) 1 0]) 4 rfl ⟨bG.refl _,bG.refl _,bG.refl _,bG.jv,bG.refl _,trivial⟩ (Nat.zero_le _) rfl (D5 _ _ _ _))) ?_
    refine ax.loop (fun x:Nat × Nat × Nat=>x.1≤32∧(x.2.2=(aW L x.1).length∨x.2.2=(aW L x.1).length+1)) (fun x=>⟨aF [(6,.ptr 0 0 0),(12,.ptr 1 0 0),(13,.bg 2 0 0 32 32),(15,.bg 3 x.2.1 0 (aW L x.1).length x.2.2),(16,ai (x.1:Nat))],[.cells (aG xp) 0 0,.cells (aG z) 0 0,.cells (xu L) 1 0,.cells ((aW L x.1).map ai) 1 x.2.1],aV.none,false,0⟩) (fun x=>32 - x.1) ?_ (0,0,0) ⟨Nat.zero_le _,.inl rfl⟩
    rintro ⟨k,ver,c⟩ ⟨hk,hcap⟩
    dsimp only at hk hcap
    show ax _ _ _ _ ⟨aF [(6,.ptr 0 0 0),(12,.ptr 1 0 0),(13,.bg 2 0 0 32 32),(15,.bg 3 ver 0 (aW L k).length c),(16,ai (k:Nat))],[.cells (aG xp) 0 0,.cells (aG z) 0 0,.cells (xu L) 1 0,.cells ((aW L k).map ai) 1 ver],aV.none,false,0⟩ _
    refine aa (mu:=fun t=>Nat.beq t 89) ?_
    have hwl:=pU L k
    by_cases hlt:k < 32
    ·have d1:decide ((k:Int) < ((32:Nat):Int))=true:=decide_eq_true (by omega)
     have hsu:=wT L k
     have hat:(xu L)[0+((k:Nat):Int).toNat * 1]?=some (BB (decide (0 < ir L k))):=by rw [Int.toNat_natCast,Nat.zero_add,Nat.mul_one];exact AY hlt
     by_cases hp0:0 < ir L k
     ·rw [if_pos hp0] at hsu
      rw [decide_eq_true hp0] at hat
      have hml:((aW L k).map ai).length=(aW L k).length:=List.length_map _
      repeat' (first |((with_reducible show RM.wpOp _ _ (.load _ _) _ _ _);refine RM.DQ rfl rfl rfl hat ?_) |((with_reducible show RM.wpOp _ _ (.call _) _ _ _);refine RM.qJ (cs:=(aW L k).map ai) (n:=(aW L k).length) (els:=[eI (k:Int)]) rfl rfl rfl rfl rfl (fun el hel=>by rw [List.mem_singleton.1 hel];rfl) rfl rfl (by rw [hml];exact (Nat.mul_one _).symm) hcap (by simp only [List.length_singleton];omega) (fun v' c' hc'=>?_)) |refine u1 ?_ |fail)
      refine ⟨(k+1,v',c'),⟨hlt,by dsimp only;rw [hsu,List.length_append];exact hc'⟩,(by dsimp only;omega),?_⟩
      show ah _ ⟨aF [(6,.ptr 0 0 0),(12,.ptr 1 0 0),(13,.bg 2 0 0 32 32),(15,.bg 3 v' 0 (aW L (k+1)).length c'),(16,ai ((k+1):Nat))],[.cells (aG xp) 0 0,.cells (aG z) 0 0,.cells (xu L) 1 0,.cells ((aW L (k+1)).map ai) 1 v'],aV.none,false,0⟩
      have hin:=D5 z L (aW L (k+1)) v'
      rw [hsu] at hin ⊢
      rw [List.map_append] at hin ⊢
      exact ah.to 4 rfl ⟨rfl,rfl,rfl,(by rw [List.length_append];rfl),aR (by simp),trivial⟩ (Nat.zero_le _) rfl hin
     ·rw [if_neg hp0] at hsu
      rw [decide_eq_false hp0] at hat
      repeat' (first |((with_reducible show RM.wpOp _ _ (.load _ _) _ _ _);refine RM.DQ rfl rfl rfl hat ?_) |refine u1 ?_ |fail)
      refine ⟨(k+1,ver,c),⟨hlt,by dsimp only;rw [hsu];exact hcap⟩,(by dsimp only;omega),?_⟩
      show ah _ ⟨aF [(6,.ptr 0 0 0),(12,.ptr 1 0 0),(13,.bg 2 0 0 32 32),(15,.bg 3 ver 0 (aW L (k+1)).length c),(16,ai ((k+1):Nat))],[.cells (aG xp) 0 0,.cells (aG z) 0 0,.cells (xu L) 1 0,.cells ((aW L (k+1)).map ai) 1 ver],aV.none,false,0⟩
      rw [hsu]
      exact ah.to 4 rfl ⟨rfl,rfl,rfl,rfl,aR (by simp),trivial⟩ (Nat.zero_le _) rfl (D5 _ _ _ _)
    ·have hk2:k=32:=by omega
     subst hk2
     repeat' (first |refine u1 ?_ |refine u2 ?_ |fail)
     exact ⟨[_,_,_],⟨Fz.deep rfl,Fz.row (es:=1) rfl (by simp) (by simp) (fun el hel=>by obtain ⟨x,_,rfl⟩:=List.mem_map.1 hel;rfl) (by rw [nW,List.drop_zero,List.take_of_length_le (by simp)]) (by rw [nW];exact yT _) (fun h=>Bool.noConfusion h),Fz.deep rfl,trivial⟩,rfl⟩
 ·rw [if_pos (by omega)]
  rw [iS e0] at hkn
  generalize aD s n rs=z at *
  have d0:(!decide (z.2=0))=true:=by rw [decide_eq_false e0];rfl
  refine af.body (fn:=Tryz.f31) rfl rfl rfl rfl ?_
  refine aa (mu:=fun _=>false) ?_
  repeat' (first |refine u1 ?_ |refine u2 ?_ |fail)
  exact ⟨[_,_,_],⟨Fz.deep rfl,Fz.nil,Fz.deep rfl,trivial⟩,rfl⟩
end Go.Proofs.YtichbhmnhkegiaaGreat
