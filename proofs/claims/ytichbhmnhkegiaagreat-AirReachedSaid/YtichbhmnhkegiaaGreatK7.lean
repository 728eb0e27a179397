/-
  Contracts of the program's functions and of the document's. Lemmas alone; their conditions stand in them.
-/
import Derived.Test.YtichbhmnhkegiaaGreatA3
import Derived.Test.YtichbhmnhkegiaaGreatK3
import Derived.Test.YtichbhmnhkegiaaGreatK6
open Go Go.RM Go.AirLaw
namespace Go.Proofs.YtichbhmnhkegiaaGreat
set_option maxRecDepth 100000
set_option maxHeartbeats 4000000
def dH (s:au) (n:aA):List (Int × Int):=jz K6 (dB (gr s n.bK).cand) (dB s.clear)
def fc (s:au) (n:aA):List (Int × Int):=jz K7 (dB s.aN) (dB ⟨n.dc,n.dc+n.bX - 1⟩)
def cZ (s:au) (n:aA) (rs:List av):List (Int × Int):=(dH s n).filter (fits bz n false rs)
def iq (s:au) (n:aA) (rs:List av):List (Int × Int):=(fc s n).filter (fits aY n true rs)
theorem jm {s:Span} {x:Int}:x ∈ dB s ↔ s.lo≤x∧x≤s.hi:=by
 unfold dB bh
 rw [List.mem_map]
 constructor
 ·rintro ⟨k,hk,rfl⟩
  rw [List.mem_range] at hk
  omega
 ·intro h
  exact ⟨(x - s.lo).toNat,by rw [List.mem_range];omega,by omega⟩
theorem pT {mk:Int→Int→Int × Int} {xs bs:List Int} {x:Int × Int}:x ∈ jz mk xs bs ↔ ∃ a ∈ xs,∃ b ∈ bs,mk a b=x:=by
 unfold jz
 simp [List.mem_flatMap,List.mem_map]
theorem jW.lb {s:au} {n:aA} {rs:List av} (h:jW s n rs):∀ x ∈ dH s n,(1≤x.1∧x.1≤5000)∧1≤x.2∧x.2≤300:=by
 intro x hx
 unfold dH at hx
 rw [pT] at hx
 obtain ⟨a,ha,b,hb,rfl⟩:=hx
 rw [jm] at ha hb
 have h1:=h.gU.cand _ h.mem
 have h2:=h.gU.clear
 show (1≤a∧a≤5000)∧1≤b∧b≤300
 omega
theorem jW.hb {s:au} {n:aA} {rs:List av} (h:jW s n rs):∀ x ∈ fc s n,(1≤x.1∧x.1≤200)∧0≤x.2∧x.2≤31:=by
 intro x hx
 unfold fc at hx
 rw [pT] at hx
 obtain ⟨a,ha,b,hb,rfl⟩:=hx
 rw [jm] at ha hb
 have h1:=h.gU.aN
 have h2:=h.dc
 dsimp only at hb
 show (1≤a∧a≤200)∧0≤b % 32∧b % 32≤31
 omega
abbrev Mz (s:au) (n:aA) (rs:List av) (f:Bool):AV:=.fn 120 [] [.pt [gL (gr s n.bK).cand s.clear] 0,.pt (bS s n rs f) 0,.pt [BB false] 0]
abbrev MA (s:au) (n:aA) (rs:List av) (f:Bool):AV:=.fn 123 [] [.pt [gH s.aN ⟨n.dc,n.dc+n.bX - 1⟩] 0,.pt (bS s n rs f) 0,.pt [BB true] 0]
theorem jW.gl (one:Bool) {s:au} {n:aA} {rs:List av} (f:Bool) (h:jW s n rs):lX TT TB one (Mz s n rs f) ((cZ s n rs).map jP):=by
 have h1:=h.gU.cand _ h.mem
 have h2:=h.gU.clear
 exact Ge one f h _ _ _ (Cv one _ _ (by omega) (by omega)) (fun x hx=>by have:=h.lb x hx;omega)
theorem jW.gh (one:Bool) {s:au} {n:aA} {rs:List av} (f:Bool) (h:jW s n rs):lX TT TB one (MA s n rs f) ((iq s n rs).map jP):=by
 have h1:=h.gU.aN
 have h2:=h.dc
 have h3:=h.bX
 exact Gg one f h _ _ _ (Cw one _ _ (by omega) (by dsimp only;omega) (by dsimp only;omega)) (fun x hx=>by have:=h.hb x hx;omega)
theorem jW.cl (one:Bool) {s:au} {n:aA} {rs:List av} (f:Bool) (_:jW s n rs):Pu one 80 [.ag (bS s n rs f),gL (gr s n.bK).cand s.clear,BB false] (Mz s n rs f):=Gd one s n rs f _ _
theorem jW.ch (one:Bool) {s:au} {n:aA} {rs:List av} (f:Bool) (_:jW s n rs):Pu one 86 [.ag (bS s n rs f),gH s.aN ⟨n.dc,n.dc+n.bX - 1⟩,BB true] (MA s n rs f):=Gf one s n rs f _ _
theorem gR {s:au} {n:aA} {rs:List av} (h:jW s n rs) {x:Int × Int} (hx:x ∈ cZ s n rs):(0≤x.1∧x.1≤5000)∧0≤x.2∧x.2≤300:=by
 have:=h.lb x (List.mem_filter.1 hx).1
 omega
theorem Gh {s:au} {n:aA} {rs:List av} (h:jW s n rs) {x:Int × Int} (hx:x ∈ iq s n rs):(0≤x.1∧x.1≤300)∧0≤x.2∧x.2≤31:=by
 have:=h.hb x (List.mem_filter.1 hx).1
 omega
def xp:Span:=⟨0,0⟩
def iR (s:au) (n:aA) (rs:List av):Span × Span × Int :=
 if (aD s n rs).2 ≠ 0 then (xp,xp,(aD s n rs).2)
 else if (aH Prod.fst (cZ s n rs)).2=false then ((aH Prod.fst (cZ s n rs)).1,xp,9)
 else ((aH Prod.fst (cZ s n rs)).1,(aH Prod.snd (cZ s n rs)).1,0)
theorem AE (one:Bool) (s:au) (h:s.Ok) (n:aA) (rs:List av) (f:Bool) (hr:rs.length≤maxLen) :
  Pu one 28 [.ag (ay s),.ag (aC n),.sl (rs.map aj) f] (.tp [.ag (aG (iR s n rs).1),.ag (aG (iR s n rs).2.1),ai (iR s n rs).2.2]):=by
 have hen:=nF one s h n rs f hr
 unfold iR
 by_cases e0:(aD s n rs).2=0
 ·rw [if_neg (by omega)]
  have ho:=cc e0
  rw [e0] at hen
  have c1:=mP true f ho
  have c2:=ho.cl true f
  have e1:=pS one 83 [] [] rfl _ _ _ Prod.fst _ (ho.gl one f) (fun x hx=>K8 one x.1 x.2)
  have e2:=pS one 84 [] [] rfl _ _ _ Prod.snd _ (ho.gl one f) (fun x hx=>K9 one x.1 x.2)
  generalize aH Prod.fst (cZ s n rs)=z at *
  generalize aH Prod.snd (cZ s n rs)=y at *
  obtain ⟨z1,z2⟩:=z
  cases z2 with
  | false =>
   refine af.body (fn:=Tryz.f28) rfl rfl rfl rfl ?_
   refine aa (mu:=fun _=>false) ?_
   repeat' (first |refine af.call hen rfl rfl ?_ |refine ⟨_,_,.inl ⟨rfl,rfl⟩,c1,?_⟩ |refine ⟨_,_,.inl ⟨rfl,rfl⟩,c2,?_⟩ |refine af.call e1 rfl rfl ?_ |refine u1 ?_ |refine u2 ?_ |fail)
   exact ⟨[_,_,_],⟨Fz.deep rfl,Fz.deep rfl,Fz.deep rfl,trivial⟩,rfl⟩
  | true =>
   refine af.body (fn:=Tryz.f28) rfl rfl rfl rfl ?_
   refine aa (mu:=fun _=>false) ?_
   repeat' (first |refine af.call hen rfl rfl ?_ |refine ⟨_,_,.inl ⟨rfl,rfl⟩,c1,?_⟩ |refine ⟨_,_,.inl ⟨rfl,rfl⟩,c2,?_⟩ |refine af.call e1 rfl rfl ?_ |refine af.call e2 rfl rfl ?_ |refine u1 ?_ |refine u2 ?_ |fail)
   exact ⟨[_,_,_],⟨Fz.deep rfl,Fz.deep rfl,Fz.deep rfl,trivial⟩,rfl⟩
 ·rw [if_pos (by omega)]
  have d0:(!decide ((aD s n rs).2=0))=true:=by rw [decide_eq_false e0];rfl
  refine af.body (fn:=Tryz.f28) rfl rfl rfl rfl ?_
  refine aa (mu:=fun _=>false) ?_
  repeat' (first |refine u1 ?_ |refine u2 ?_ |refine af.call hen rfl rfl ?_ |fail)
  exact ⟨[_,_,_],⟨Fz.deep rfl,Fz.deep rfl,Fz.deep rfl,trivial⟩,rfl⟩
end Go.Proofs.YtichbhmnhkegiaaGreat
open Go Go.RM Go.AirLaw
namespace Go.Proofs.YtichbhmnhkegiaaGreat
set_option maxRecDepth 100000
set_option maxHeartbeats 4000000
def ir (L:List (Int × Int)) (w:Nat):Int:=((L.filter fun x=>x.2 == (w:Int)).length:Nat)
def jA (L:List (Int × Int)):List AV:=(List.range 32).map fun w=>ai (ir L w)
theorem AF {L:List (Int × Int)} {w:Nat} (h:w < 32):(jA L)[w]?=some (ai (ir L w)):=by
 unfold jA
 rw [List.getElem?_map,List.getElem?_range h]
 rfl
theorem vh (L:List (Int × Int)):(jA L).length=32:=by simp [jA]
theorem Cx (L:List (Int × Int)) (x:Int × Int) (w:Nat):ir (L++[x]) w=if x.2=(w:Int) then ir L w+1 else ir L w:=by
 unfold ir
 rw [List.filter_append]
 by_cases h:x.2=(w:Int)
 ·rw [if_pos h]
  simp [h]
 ·rw [if_neg h]
  simp [h]
theorem HX {L:List (Int × Int)} {x:Int × Int} {w:Nat} (hx:x.2=(w:Int)) (h:w < 32):dG (jA L) [ai (ir L w+1)] w=jA (L++[x]):=by
 have hl:=vh L
 refine List.ext_getElem? fun i=>?_
 unfold dG
 by_cases hi:i < 32
 ·rw [AF hi,Cx]
  rcases Nat.lt_trichotomy i w with h1|h1|h1
  ·rw [List.append_assoc,List.getElem?_append_left (by rw [List.length_take];omega),List.getElem?_take_of_lt h1,AF hi,if_neg (by omega)]
  ·subst h1
   rw [List.append_assoc,List.getElem?_append_right (by rw [List.length_take];omega),if_pos hx]
   rw [List.length_take,Nat.min_eq_left (by omega),Nat.sub_self]
   rfl
  ·rw [List.getElem?_append_right (by simp;omega),if_neg (by omega)]
   rw [List.getElem?_drop]
   simp only [List.length_append,List.length_take,List.length_singleton]
   rw [Nat.min_eq_left (by omega),show w+1+(i - (w+1))=i by omega,AF hi]
 ·rw [List.getElem?_eq_none (by simp;omega),List.getElem?_eq_none (by rw [vh];omega)]
theorem LZ {own:Bool} {fr:Nat→AV} {hp:List AB} {K:AV→List AB→Prop} {a x:Operand} {L:List (Int × Int)} {m:Nat} (ha:aM fr a=.ag (jA L)) (hx:aM fr x=ai (m:Nat)) (hm:m < 32) (hK:K (ai (ir L m)) hp):RM.wpOp TT own (.index 148 a x) fr hp K:=by
 show u0 TT 148 (aM fr a) (aM fr x) hp K
 rw [ha,hx]
 refine ⟨_,_,rfl,rfl,?_⟩
 match m,hm with
 | 0,_|1,_|2,_|3,_|4,_|5,_|6,_|7,_|8,_|9,_|10,_|11,_|12,_|13,_|14,_|15,_|16,_|17,_|18,_|19,_|20,_|21,_|22,_|23,_|24,_|25,_|26,_|27,_|28,_|29,_|30,_|31,_=>exact ⟨_,rfl,rfl,hK⟩
 | k+32,h=>exact absurd h (by omega)
end Go.Proofs.YtichbhmnhkegiaaGreat
open Go Go.RM Go.AirLaw
namespace Go.Proofs.YtichbhmnhkegiaaGreat
set_option maxRecDepth 100000
set_option maxHeartbeats 4000000
theorem nW:∀ (L:List Int),(L.map eI).flatten=L.map ai
 | []=>rfl
 | a :: l=>by
  show ai a :: (l.map eI).flatten=ai a :: l.map ai
  rw [nW l]
theorem yT:∀ (L:List Int),bP (L.map ai)=true
 | []=>rfl
 | _ :: l=>yT l
def aW (L:List (Int × Int)) (k:Nat):List Int:=((List.range k).filter fun w=>decide (0 < ir L w)).map Int.ofNat
theorem wT (L:List (Int × Int)) (k:Nat):aW L (k+1)=if 0 < ir L k then aW L k++[(k:Int)] else aW L k:=by
 unfold aW
 rw [List.range_succ,List.filter_append]
 by_cases h:0 < ir L k
 ·rw [if_pos h]
  simp [h]
 ·rw [if_neg h]
  simp [h]
theorem pU (L:List (Int × Int)) (k:Nat):(aW L k).length≤k:=by
 unfold aW
 rw [List.length_map]
 exact Nat.le_trans (List.length_filter_le _ _) (by simp)
theorem JN {L:List (Int × Int)} (w:Nat):0≤ir L w∧ir L w≤L.length:=by
 unfold ir
 have:=List.length_filter_le (fun x:Int × Int=>x.2 == (w:Int)) L
 omega
theorem Gi {s:au} {n:aA} {rs:List av} (h:jW s n rs):(iq s n rs).length≤100000:=by
 unfold iq
 refine Nat.le_trans (List.length_filter_le _ _) ?_
 unfold fc
 rw [gi,bp,bp]
 have h1:=h.gU.aN
 have h2:=h.bX
 have a1:bh s.aN≤200:=by unfold bh;omega
 have a2:bh ⟨n.dc,n.dc+n.bX - 1⟩≤32:=by unfold bh;dsimp only;omega
 exact Nat.le_trans (Nat.mul_le_mul a1 a2) (by decide)
def fy (s:au) (n:aA) (rs:List av):Span × List Int × Int :=
 if (aD s n rs).2 ≠ 0 then (xp,[],(aD s n rs).2)
 else if (aH Prod.fst (iq s n rs)).2=false then ((aH Prod.fst (iq s n rs)).1,[],9)
 else ((aH Prod.fst (iq s n rs)).1,aW (iq s n rs) 32,0)
theorem JO (A B C:AB) (L:List Int) (v c:Nat):Fz [A,B,C,.cells (L.map ai) 1 v] (.bg 3 v 0 L.length c) (.sl (L.map eI) false) :=
 Fz.row (es:=1) rfl (by simp) (by simp) (fun el hel=>by obtain ⟨x,_,rfl⟩:=List.mem_map.1 hel;rfl) (by rw [nW,List.drop_zero,List.take_of_length_le (by simp)]) (by rw [nW];exact yT _) (fun h=>Bool.noConfusion h)
theorem L3 (n:Nat):∀ (L:List Int),iM n (L.map ai)=true
 | []=>rfl
 | _ :: l=>by
  show (AV.cJ n (ai _) && iM n (l.map ai))=true
  rw [L3 n l]
  rfl
theorem vi {A B C:AB} (hA:AB.cJ 4 A=true) (hB:AB.cJ 4 B=true) (hC:AB.cJ 4 C=true) (L:List Int) (v:Nat):([A,B,C,.cells (L.map ai) 1 v]:List AB).all (AB.cJ 4)=true:=by
 have h:AB.cJ 4 (.cells (L.map ai) 1 v)=true:=L3 4 L
 simp only [List.all_cons,List.all_nil,hA,hB,hC,h,Bool.and_true]
theorem AG (one:Bool) (s:au) (h:s.Ok) (n:aA) (rs:List av) (f:Bool) (hr:rs.length≤maxLen) :
  Pu one 30 [.ag (ay s),.ag (aC n),.sl (rs.map aj) f] (.tp [.ag (aG (fy s n rs).1),.sl ((fy s n rs).2.1.map eI) false,ai (fy s n rs).2.2]):=by
 have hen:=nF one s h n rs f hr
 unfold fy
 by_cases e0:(aD s n rs).2=0
 ·rw [if_neg (by omega)]
  have ho:=cc e0
  rw [e0] at hen
  have c1:=AA true f ho
  have c2:=ho.ch true f
  have hg:=ho.gh one f
  have e1:=E6 one 89 [] [] rfl _ _ _ Prod.fst _ hg (fun x hx=>La one x.1 x.2)
  have hmem:∀ x ∈ iq s n rs,(1≤x.1∧x.1≤200)∧0≤x.2∧x.2≤31:=fun x hx=>ho.hb x (List.mem_filter.1 hx).1
  have hlen:=Gi ho
  generalize aH Prod.fst (iq s n rs)=z at *
  generalize iq s n rs=L at *
  obtain ⟨z1,z2⟩:=z
  dsimp only at e1
  cases z2 with
  | false =>
   refine af.body (fn:=Tryz.f30) rfl rfl rfl rfl ?_
   refine aa (mu:=fun _=>false) ?_
   repeat' (first |refine af.call hen rfl rfl ?_ |refine ⟨_,_,.inl ⟨rfl,rfl⟩,c1,?_⟩ |refine ⟨_,_,.inl ⟨rfl,rfl⟩,c2,?_⟩ |refine af.call e1 rfl rfl ?_ |refine u1 ?_ |refine u2 ?_ |fail)
   exact ⟨[_,_,_],⟨Fz.deep rfl,Fz.nil,Fz.deep rfl,trivial⟩,rfl⟩
  | true =>
   refine af.body (fn:=Tryz.f30) rfl rfl rfl rfl ?_
   refine RM.fm (mu:=fun _=>false) ?_
   repeat' (first |refine u1 ?_ |refine u2 ?_ |fail)
   refine RM.fm (mu:=fun _=>false) ?_
   repeat' (first |refine u1 ?_ |refine u2 ?_ |refine af.call hen rfl rfl ?_ |fail)
   refine RM.fm (mu:=fun _=>false) ?_
   repeat' (first |refine u1 ?_ |fail)
   refine RM.fm (mu:=fun _=>false) ?_
   repeat' (first |refine ⟨_,_,.inl ⟨rfl,rfl⟩,c1,?_⟩ |refine ⟨_,_,.inl ⟨rfl,rfl⟩,c2,?_⟩ |refine u1 ?_ |refine u2 ?_ |fail)
   refine RM.fm (mu:=fun _=>false) ?_
   repeat' (first |refine u1 ?_ |refine u2 ?_ |refine af.call e1 rfl rfl ?_ |fail)
   refine RM.fm (mu:=fun _=>false) ?_
   repeat' (first |refine u1 ?_ |fail)
   refine RM.fm (mu:=fun _=>false) ?_
   repeat' (first |refine u1 ?_ |fail)
   refine ax.seq ?_
   refine RM.fm (mu:=fun _=>false) ?_
   repeat' (first |refine u1 ?_ |fail)
   refine ax.block ?_
   refine ax.range (fun i=>[.cells (aG z1) 0 0,.cells (bS s n rs f) 0 0,.cells (jA (L.take i)) 0 0]) (fun _=>aV.none) (fun _=>True) rfl hg rfl rfl trivial (fun i x hx _=>?_) (fun _=>?_)
   ·obtain ⟨x,hxi,rfl⟩:=wR hx
    have hxb:=hmem x (List.mem_of_getElem? hxi)
    obtain ⟨w,hw⟩:∃ w:Nat,x.2=w:=⟨x.2.toNat,by omega⟩
    have hw32:w < 32:=by omega
    have hcb:=JN (L:=L.take i) w
    have hcl:(L.take i).length≤L.length:=by rw [List.length_take];omega
    have hst:dG (jA (L.take i)) [ai (ir (L.take i) w+1)] (0+(w:Int).toNat * 1)=jA (L.take (i+1)):=by
     rw [List.take_add_one,hxi,Nat.zero_add,Nat.mul_one,Int.toNat_natCast]
     exact HX hw hw32
    have hat:(jA (L.take i))[0+(w:Int).toNat * 1]?=some (ai (ir (L.take i) w)):=by
     rw [Nat.zero_add,Nat.mul_one,Int.toNat_natCast]
     exact AF hw32
    have hln:0+(w:Int).toNat * 1+1≤(jA (L.take i)).length:=by rw [vh,Int.toNat_natCast];omega
    obtain ⟨x1,x2⟩:=x
    dsimp only at hw
    subst hw
    generalize ir (L.take i) w=c at *
    refine ⟨rfl,?_⟩
    refine aa (mu:=fun _=>false) ?_
    repeat' (first |refine u1 ?_ |refine u2 ?_ |fail)
    refine aa (mu:=fun _=>false) ?_
    repeat' (first |refine ⟨_,_,rfl,_,hat,?_⟩ |refine ⟨_,_,rfl,rfl,rfl,rfl,hln,?_⟩ |refine ⟨⟨by omega,by omega⟩,?_⟩ |refine u1 ?_ |refine u2 ?_ |fail)
    exact ⟨_,ah.to (l:=[]) 3 (congrArg (fun c=>[AB.cells (aG z1) 0 0,.cells (bS s n rs f) 0 0,.cells c 0 0]) hst) trivial (Nat.le_refl _) rfl rfl⟩
   ·rw [List.length_map,List.take_length]
    refine aa (mu:=fun t=>Nat.beq t 57) ?_
    repeat' (first |refine u1 ?_ |refine u2 ?_ |fail)
    refine ax.aK (ah.trans (ah.jw 1) (ah.GI (l:=[(6,.ptr 0 0 0),(7,.bg 3 (0,0,0).2.1 0 (aW L (0,0,0).1).length (0,0,0).2.2),(47,.ag (jA L)),(48,ai ((0,0,0).1:Nat))]) (hp:=[.cells (aG z1) 0 0,.cells (bS s n rs f) 0 0,.cells (jA L) 0 0,.cells ((aW L (0,0,0).1).map ai) 1 (0,0,0).2.1]) 4 rfl ⟨bG.refl _,bG.jv,bG.of (show AV.ag (List.take 32 (List.drop 0 (jA L)))=.ag (jA L) by rw [List.drop_zero,List.take_of_length_le (by rw [vh];exact Nat.le_refl _)]),bG.refl _,trivial⟩ (Nat.zero_le _) rfl (vi rfl rfl rfl _ _))) ?_
    refine ax.loop (fun x:Nat × Nat × Nat=>x.1≤32∧(x.2.2=(aW L x.1).length∨x.2.2=(aW L x.1).length+1)) (fun x=>⟨aF [(6,.ptr 0 0 0),(7,.bg 3 x.2.1 0 (aW L x.1).length x.2.2),(47,.ag (jA L)),(48,ai (x.1:Nat))],[.cells (aG z1) 0 0,.cells (bS s n rs f) 0 0,.cells (jA L) 0 0,.cells ((aW L x.1).map ai) 1 x.2.1],aV.none,false,0⟩) (fun x=>32 - x.1) ?_ (0,0,0) ⟨Nat.zero_le _,.inl rfl⟩
    rintro ⟨k,ver,c⟩ ⟨hk,hcap⟩
    dsimp only at hk hcap
    show ax _ _ _ _ ⟨aF [(6,.ptr 0 0 0),(7,.bg 3 (k,ver,c).2.1 0 (aW L (k,ver,c).1).length (k,ver,c).2.2),(47,.ag (jA L)),(48,ai ((k,ver,c).1:Nat))],[.cells (aG z1) 0 0,.cells (bS s n rs f) 0 0,.cells (jA L) 0 0,.cells ((aW L (k,ver,c).1).map ai) 1 (k,ver,c).2.1],aV.none,false,0⟩ _
    dsimp only
    refine aa (mu:=fun t=>Nat.beq t 57) ?_
    have hwl:=pU L k
    by_cases hlt:k < 32
    ·have d1:decide ((k:Int) < 32)=true:=decide_eq_true (by omega)
     have hsu:=wT L k
     by_cases hp0:0 < ir L k
     ·have d2:decide (0 < ir L k)=true:=decide_eq_true hp0
      rw [if_pos hp0] at hsu
      have hb:((aW L k).length+[eI (k:Int)].length) * 8≤140737488355328∧(aW L k).length+[eI (k:Int)].length≤9223372036854775807:=by simp only [List.length_singleton];omega
      repeat' (first |refine LZ rfl rfl hlt ?_ |(refine RM.qJ (cs:=(aW L k).map ai) (n:=(aW L k).length) (els:=[eI (k:Int)]) rfl rfl rfl rfl rfl (fun el hel=>(by cases hel with|head=>rfl|tail _ hx=>cases hx)) rfl rfl (by rw [List.length_map];exact (Nat.mul_one _).symm) hcap hb (fun v c' hc'=>?_)) |refine u1 ?_ |(((with_reducible show Nat.beq _ _=true∧_);refine And.intro rfl ?_;show bP _=true∧_;refine And.intro rfl ?_)) |refine u2 ?_ |fail)
      refine ⟨(k+1,v,c'),⟨hlt,by dsimp only;rw [hsu,List.length_append];exact hc'⟩,(by dsimp only;omega),?_⟩
      show ah _ ⟨aF [(6,.ptr 0 0 0),(7,.bg 3 (k+1,v,c').2.1 0 (aW L (k+1,v,c').1).length (k+1,v,c').2.2),(47,.ag (jA L)),(48,ai ((k+1,v,c').1:Nat))],[.cells (aG z1) 0 0,.cells (bS s n rs f) 0 0,.cells (jA L) 0 0,.cells ((aW L (k+1,v,c').1).map ai) 1 (k+1,v,c').2.1],aV.none,false,0⟩
      dsimp only
      rw [hsu]
      exact ah.to 4 (by show [AB.cells (aG z1) 0 0,.cells (bS s n rs f) 0 0,.cells (jA L) 0 0,.cells ((aW L k).map ai++[ai (k:Int)]) 1 v]=_;rw [List.map_append];rfl) ⟨rfl,(by show AV.bg 3 v 0 ((aW L k).length+1) c'=AV.bg 3 v 0 (aW L k++[(k:Int)]).length c';rw [List.length_append];rfl),rfl,aR (by simp),trivial⟩ (Nat.zero_le _) rfl (vi rfl rfl rfl _ _)
     ·have d2:decide (0 < ir L k)=false:=decide_eq_false hp0
      rw [if_neg hp0] at hsu
      repeat' (first |refine LZ rfl rfl hlt ?_ |refine u1 ?_ |fail)
      refine ⟨(k+1,ver,c),⟨hlt,by dsimp only;rw [hsu];exact hcap⟩,(by dsimp only;omega),?_⟩
      show ah _ ⟨aF [(6,.ptr 0 0 0),(7,.bg 3 (k+1,ver,c).2.1 0 (aW L (k+1,ver,c).1).length (k+1,ver,c).2.2),(47,.ag (jA L)),(48,ai ((k+1,ver,c).1:Nat))],[.cells (aG z1) 0 0,.cells (bS s n rs f) 0 0,.cells (jA L) 0 0,.cells ((aW L (k+1,ver,c).1).map ai) 1 (k+1,ver,c).2.1],aV.none,false,0⟩
      dsimp only
      rw [hsu]
      exact ah.to 4 rfl ⟨rfl,rfl,rfl,aR (by simp),trivial⟩ (Nat.zero_le _) rfl (vi rfl rfl rfl _ _)
    ·have hk2:k=32:=by omega
     subst hk2
     repeat' (first |refine u1 ?_ |refine u2 ?_ |fail)
     exact ⟨[_,_,_],⟨Fz.deep rfl,JO _ _ _ _ _ _,Fz.deep rfl,trivial⟩,rfl⟩
 ·rw [if_pos (by omega)]
  have d0:(!decide ((aD s n rs).2=0))=true:=by rw [decide_eq_false e0];rfl
  refine af.body (fn:=Tryz.f30) rfl rfl rfl rfl ?_
  refine aa (mu:=fun _=>false) ?_
  repeat' (first |refine u1 ?_ |refine u2 ?_ |refine af.call hen rfl rfl ?_ |fail)
  exact ⟨[_,_,_],⟨Fz.deep rfl,Fz.nil,Fz.deep rfl,trivial⟩,rfl⟩
end Go.Proofs.YtichbhmnhkegiaaGreat
open Go Go.RM
namespace Go.Proofs.YtichbhmnhkegiaaGreat
set_option maxRecDepth 100000
theorem MB:az TT.P (underlying 3)=some (.int .i64):=by kernel_rfl
theorem Ld (b:Bool) (k:Int):az TT.P (Instr.checkKey b 10000 3 (vI k))=some ():=by
 cases b <;> rfl
theorem E8 (k:Int) (w:IntKind):∀ (ks:List Int) (es:List MapEntry) (i:Nat),es.map (·.key)=ks.map vI→∃ r,Instr.findNow (.int w) (vI k) es i=some r∧r.map (·.1)=(ks.findIdx? fun x=>decide (k=x)).map fun j=>i+j
 | [],es,i,h=>by
  have:es=[]:=by simpa using h
  subst this
  exact ⟨none,rfl,rfl⟩
 | a :: ks,es,i,h=>by
  cases es with
  | nil=>simp at h
  | cons e es =>
   simp only [List.map_cons,List.cons.injEq] at h
   have hs:Instr.sameNow (.int w) (vI k) e.key=some (k == a):=by
    rw [h.1]
    show (if IntKind.i64=IntKind.i64 then some (k == a) else none)=_
    rw [if_pos rfl]
   unfold Instr.findNow
   rw [hs,List.findIdx?_cons]
   by_cases hk:k=a
   ·subst hk
    exact ⟨some (i,e.val),by simp,by simp⟩
   ·obtain ⟨r,h1,h2⟩:=E8 k w ks es (i+1) h.2
    refine ⟨r,by rw [h1,show (k == a)=false from beq_eq_false_iff_ne.2 hk],?_⟩
    rw [h2,decide_eq_false hk]
    simp only [Bool.false_eq_true,if_false,Option.map_map]
    congr 1
    funext j
    show i+1+j=i+(j+1)
    omega
theorem HY (b:Bool) (k:Int) (ks:List Int):Ca TT b 3 (vI k) (ks.map vI) (ks.findIdx? fun x=>decide (k=x)):=by
 intro es he
 have hall:(es.all fun e=>flat e.key)=true:=by
  rw [List.all_eq_true]
  intro e hm
  have:e.key ∈ ks.map vI:=by rw [←he];exact List.mem_map.2 ⟨e,hm,rfl⟩
  obtain ⟨x,_,hx⟩:=List.mem_map.1 this
  rw [←hx]
  rfl
 unfold nP
 rw [show flat (vI k)=true from rfl,hall,Ld b k]
 simp only [Bool.and_self,cond_true]
 obtain ⟨r,h1,h2⟩:=E8 k .i64 ks (es.map fun e=>{e with val:=.nilIface}) 0 (by rw [List.map_map];exact he)
 have h3:az TT.P (Instr.findKey 3 (vI k) (es.map fun e=>{e with val:=.nilIface}))=some r:=by
  unfold Instr.findKey
  rw [ij,MB,Option.bind_some,h1]
  rfl
 rw [h3,Option.map_some,h2]
 congr 1
 cases ks.findIdx? fun x=>decide (k=x) <;> simp
theorem HZ (k:Int):Instr.sameBits 10000 (vI k) (vI k)=true:=by
 show (IntKind.i64 == IntKind.i64 && k == k)=true
 simp
end Go.Proofs.YtichbhmnhkegiaaGreat
