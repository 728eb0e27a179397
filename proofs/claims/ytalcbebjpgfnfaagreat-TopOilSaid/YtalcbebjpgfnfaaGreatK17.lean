/-
  Contracts of the program's functions and of the document's. Lemmas alone; their conditions stand in them.
-/
import Derived.Test.YtalcbebjpgfnfaaGreatA3
import Derived.Test.YtalcbebjpgfnfaaGreatK2
import Derived.Test.YtalcbebjpgfnfaaGreatK10
import Derived.Test.YtalcbebjpgfnfaaGreatK16
open Go Go.RM Go.AirLaw
namespace Go.Proofs.YtalcbebjpgfnfaaGreat
set_option maxRecDepth 100000
set_option maxHeartbeats 4000000
def kG (s:aC) (n:bk):List (Int × Int):=jY MD (eJ (gr s n.ei).cand) (eJ s.clear)
def ou (s:aC) (n:bk):List (Int × Int):=jY ME (eJ s.bW) (eJ ⟨n.g8,n.g8+n.gK - 1⟩)
def dO (s:aC) (n:bk) (rs:List aP):List (Int × Int):=(kG s n).filter (fits dB n false rs)
def jR (s:aC) (n:bk) (rs:List aP):List (Int × Int):=(ou s n).filter (fits cF n true rs)
theorem tq {s:Span} {x:Int}:x ∈ eJ s ↔ s.lo≤x∧x≤s.hi:=by
 unfold eJ av
 rw [List.mem_map]
 constructor
 ·rintro ⟨k,hk,rfl⟩
  rw [List.mem_range] at hk
  omega
 ·intro h
  exact ⟨(x - s.lo).toNat,by rw [List.mem_range];omega,by omega⟩
theorem qk {mk:Int→Int→Int × Int} {xs bs:List Int} {x:Int × Int}:x ∈ jY mk xs bs ↔ ∃ a ∈ xs,∃ b ∈ bs,mk a b=x:=by
 unfold jY
 simp [List.mem_flatMap,List.mem_map]
theorem rD.lb {s:aC} {n:bk} {rs:List aP} (h:rD s n rs):∀ x ∈ kG s n,(1≤x.1∧x.1≤5000)∧1≤x.2∧x.2≤300:=by
 intro x hx
 unfold kG at hx
 rw [qk] at hx
 obtain ⟨a,ha,b,hb,rfl⟩:=hx
 rw [tq] at ha hb
 have h1:=h.qv.cand _ h.mem
 have h2:=h.qv.clear
 show (1≤a∧a≤5000)∧1≤b∧b≤300
 omega
theorem rD.hb {s:aC} {n:bk} {rs:List aP} (h:rD s n rs):∀ x ∈ ou s n,(1≤x.1∧x.1≤200)∧0≤x.2∧x.2≤31:=by
 intro x hx
 unfold ou at hx
 rw [qk] at hx
 obtain ⟨a,ha,b,hb,rfl⟩:=hx
 rw [tq] at ha hb
 have h1:=h.qv.bW
 have h2:=h.g8
 dsimp only at hb
 show (1≤a∧a≤200)∧0≤b % 32∧b % 32≤31
 omega
abbrev N8 (s:aC) (n:bk) (rs:List aP) (f:Bool):AV:=.fn 108 [] [.pt [gL (gr s n.ei).cand s.clear] 0,.pt (cx s n rs f) 0,.pt [BB false] 0]
abbrev N9 (s:aC) (n:bk) (rs:List aP) (f:Bool):AV:=.fn 111 [] [.pt [gH s.bW ⟨n.g8,n.g8+n.gK - 1⟩] 0,.pt (cx s n rs f) 0,.pt [BB true] 0]
theorem rD.gl (one:Bool) {s:aC} {n:bk} {rs:List aP} (f:Bool) (h:rD s n rs):lD TT TB one (N8 s n rs f) ((dO s n rs).map kE):=by
 have h1:=h.qv.cand _ h.mem
 have h2:=h.qv.clear
 exact Gw one f h _ _ _ (CQ one _ _ (by omega) (by omega)) (fun x hx=>by have:=h.lb x hx;omega)
theorem rD.gh (one:Bool) {s:aC} {n:bk} {rs:List aP} (f:Bool) (h:rD s n rs):lD TT TB one (N9 s n rs f) ((jR s n rs).map kE):=by
 have h1:=h.qv.bW
 have h2:=h.g8
 have h3:=h.gK
 exact GO one f h _ _ _ (C5 one _ _ (by omega) (by dsimp only;omega) (by dsimp only;omega)) (fun x hx=>by have:=h.hb x hx;omega)
theorem rD.cl (one:Bool) {s:aC} {n:bk} {rs:List aP} (f:Bool) (_:rD s n rs):Pu one 66 [.ag (cx s n rs f),gL (gr s n.ei).cand s.clear,BB false] (N8 s n rs f):=Gu one s n rs f _ _
theorem rD.ch (one:Bool) {s:aC} {n:bk} {rs:List aP} (f:Bool) (_:rD s n rs):Pu one 71 [.ag (cx s n rs f),gH s.bW ⟨n.g8,n.g8+n.gK - 1⟩,BB true] (N9 s n rs f):=GN one s n rs f _ _
theorem kP {s:aC} {n:bk} {rs:List aP} (h:rD s n rs) {x:Int × Int} (hx:x ∈ dO s n rs):(0≤x.1∧x.1≤5000)∧0≤x.2∧x.2≤300:=by
 have:=h.lb x (List.mem_filter.1 hx).1
 omega
theorem GP {s:aC} {n:bk} {rs:List aP} (h:rD s n rs) {x:Int × Int} (hx:x ∈ jR s n rs):(0≤x.1∧x.1≤300)∧0≤x.2∧x.2≤31:=by
 have:=h.hb x (List.mem_filter.1 hx).1
 omega
def NO:Span:=⟨0,0⟩
def xU (s:aC) (n:bk) (rs:List aP):Span × Span × Int :=
 if (cV s n rs).2 ≠ 0 then (NO,NO,(cV s n rs).2)
 else if (bz Prod.fst (dO s n rs)).2=false then ((bz Prod.fst (dO s n rs)).1,NO,9)
 else ((bz Prod.fst (dO s n rs)).1,(bz Prod.snd (dO s n rs)).1,0)
theorem KC (one:Bool) (s:aC) (h:s.Ok) (n:bk) (rs:List aP) (f:Bool) (hr:rs.length≤maxLen) :
  Pu one 26 [.ag (bf s),.ag (jW n),.sl (rs.map aL) f] (.tp [.ag (ck (xU s n rs).1),.ag (ck (xU s n rs).2.1),ah (xU s n rs).2.2]):=by
 have hen:=qf one s h n rs f hr
 unfold xU
 by_cases e0:(cV s n rs).2=0
 ·rw [if_neg (by omega)]
  have ho:=kO e0
  rw [e0] at hen
  have c1:=nE true f ho
  have c2:=ho.cl true f
  have e1:=qi one 69 [] [] rfl _ _ _ Prod.fst _ (ho.gl one f) (fun x hx=>LZ one x.1 x.2)
  have e2:=qi one 70 [] [] rfl _ _ _ Prod.snd _ (ho.gl one f) (fun x hx=>L3 one x.1 x.2)
  generalize bz Prod.fst (dO s n rs)=z at *
  generalize bz Prod.snd (dO s n rs)=y at *
  obtain ⟨z1,z2⟩:=z
  cases z2 with
  | false =>
   refine af.body (fn:=Tryz.f26) rfl rfl rfl rfl ?_
   refine aa (mu:=fun _=>false) ?_
   repeat' (first |refine af.call hen rfl rfl ?_ |refine ⟨_,_,.inl ⟨rfl,rfl⟩,c1,?_⟩ |refine ⟨_,_,.inl ⟨rfl,rfl⟩,c2,?_⟩ |refine af.call e1 rfl rfl ?_ |refine u1 ?_ |refine u2 ?_ |fail)
   exact ⟨[_,_,_],⟨Fz.deep rfl,Fz.deep rfl,Fz.deep rfl,trivial⟩,rfl⟩
  | true =>
   refine af.body (fn:=Tryz.f26) rfl rfl rfl rfl ?_
   refine aa (mu:=fun _=>false) ?_
   repeat' (first |refine af.call hen rfl rfl ?_ |refine ⟨_,_,.inl ⟨rfl,rfl⟩,c1,?_⟩ |refine ⟨_,_,.inl ⟨rfl,rfl⟩,c2,?_⟩ |refine af.call e1 rfl rfl ?_ |refine af.call e2 rfl rfl ?_ |refine u1 ?_ |refine u2 ?_ |fail)
   exact ⟨[_,_,_],⟨Fz.deep rfl,Fz.deep rfl,Fz.deep rfl,trivial⟩,rfl⟩
 ·rw [if_pos (by omega)]
  have d0:(!decide ((cV s n rs).2=0))=true:=by rw [decide_eq_false e0];rfl
  refine af.body (fn:=Tryz.f26) rfl rfl rfl rfl ?_
  refine aa (mu:=fun _=>false) ?_
  repeat' (first |refine u1 ?_ |refine u2 ?_ |refine af.call hen rfl rfl ?_ |fail)
  exact ⟨[_,_,_],⟨Fz.deep rfl,Fz.deep rfl,Fz.deep rfl,trivial⟩,rfl⟩
end Go.Proofs.YtalcbebjpgfnfaaGreat
open Go Go.RM Go.AirLaw
namespace Go.Proofs.YtalcbebjpgfnfaaGreat
set_option maxRecDepth 100000
set_option maxHeartbeats 4000000
def nG (L:List (Int × Int)) (w:Nat):Int:=((L.filter fun x=>x.2 == (w:Int)).length:Nat)
def jZ (L:List (Int × Int)):List AV:=(List.range 32).map fun w=>ah (nG L w)
theorem Bi {L:List (Int × Int)} {w:Nat} (h:w < 32):(jZ L)[w]?=some (ah (nG L w)):=by
 unfold jZ
 rw [List.getElem?_map,List.getElem?_range h]
 rfl
theorem vL (L:List (Int × Int)):(jZ L).length=32:=by simp [jZ]
theorem I8 (L:List (Int × Int)) (x:Int × Int) (w:Nat):nG (L++[x]) w=if x.2=(w:Int) then nG L w+1 else nG L w:=by
 unfold nG
 rw [List.filter_append]
 by_cases h:x.2=(w:Int)
 ·rw [if_pos h]
  simp [h]
 ·rw [if_neg h]
  simp [h]
theorem I9 {L:List (Int × Int)} {x:Int × Int} {w:Nat} (hx:x.2=(w:Int)) (h:w < 32):cw (jZ L) [ah (nG L w+1)] w=jZ (L++[x]):=by
 have hl:=vL L
 refine List.ext_getElem? fun i=>?_
 unfold cw
 by_cases hi:i < 32
 ·rw [Bi hi,I8]
  rcases Nat.lt_trichotomy i w with h1|h1|h1
  ·rw [List.append_assoc,List.getElem?_append_left (by rw [List.length_take];omega),List.getElem?_take_of_lt h1,Bi hi,if_neg (by omega)]
  ·subst h1
   rw [List.append_assoc,List.getElem?_append_right (by rw [List.length_take];omega),if_pos hx]
   rw [List.length_take,Nat.min_eq_left (by omega),Nat.sub_self]
   rfl
  ·rw [List.getElem?_append_right (by simp;omega),if_neg (by omega)]
   rw [List.getElem?_drop]
   simp only [List.length_append,List.length_take,List.length_singleton]
   rw [Nat.min_eq_left (by omega),show w+1+(i - (w+1))=i by omega,Bi hi]
 ·rw [List.getElem?_eq_none (by simp;omega),List.getElem?_eq_none (by rw [vL];omega)]
theorem M5 {own:Bool} {fr:Nat→AV} {hp:List AB} {K:AV→List AB→Prop} {a x:Operand} {L:List (Int × Int)} {m:Nat} (ha:aQ fr a=.ag (jZ L)) (hx:aQ fr x=ah (m:Nat)) (hm:m < 32) (hK:K (ah (nG L m)) hp):RM.wpOp TT own (.index 152 a x) fr hp K:=by
 show vC TT 152 (aQ fr a) (aQ fr x) hp K
 rw [ha,hx]
 refine ⟨_,_,rfl,rfl,?_⟩
 match m,hm with
 | 0,_|1,_|2,_|3,_|4,_|5,_|6,_|7,_|8,_|9,_|10,_|11,_|12,_|13,_|14,_|15,_|16,_|17,_|18,_|19,_|20,_|21,_|22,_|23,_|24,_|25,_|26,_|27,_|28,_|29,_|30,_|31,_=>exact ⟨_,rfl,rfl,hK⟩
 | k+32,h=>exact absurd h (by omega)
end Go.Proofs.YtalcbebjpgfnfaaGreat
open Go Go.RM Go.AirLaw
namespace Go.Proofs.YtalcbebjpgfnfaaGreat
set_option maxRecDepth 100000
set_option maxHeartbeats 4000000
theorem qP:∀ (L:List Int),(L.map eI).flatten=L.map ah
 | []=>rfl
 | a :: l=>by
  show ah a :: (l.map eI).flatten=ah a :: l.map ah
  rw [qP l]
theorem C6:∀ (L:List Int),bw (L.map ah)=true
 | []=>rfl
 | _ :: l=>C6 l
def dL (L:List (Int × Int)) (k:Nat):List Int:=((List.range k).filter fun w=>decide (0 < nG L w)).map Int.ofNat
theorem Ee (L:List (Int × Int)) (k:Nat):dL L (k+1)=if 0 < nG L k then dL L k++[(k:Int)] else dL L k:=by
 unfold dL
 rw [List.range_succ,List.filter_append]
 by_cases h:0 < nG L k
 ·rw [if_pos h]
  simp [h]
 ·rw [if_neg h]
  simp [h]
theorem GQ (L:List (Int × Int)) (k:Nat):(dL L k).length≤k:=by
 unfold dL
 rw [List.length_map]
 exact Nat.le_trans (List.length_filter_le _ _) (by simp)
theorem KF {L:List (Int × Int)} (w:Nat):0≤nG L w∧nG L w≤L.length:=by
 unfold nG
 have:=List.length_filter_le (fun x:Int × Int=>x.2 == (w:Int)) L
 omega
theorem GR {s:aC} {n:bk} {rs:List aP} (h:rD s n rs):(jR s n rs).length≤100000:=by
 unfold jR
 refine Nat.le_trans (List.length_filter_le _ _) ?_
 unfold ou
 rw [nD,cW,cW]
 have h1:=h.qv.bW
 have h2:=h.gK
 have a1:av s.bW≤200:=by unfold av;omega
 have a2:av ⟨n.g8,n.g8+n.gK - 1⟩≤32:=by unfold av;dsimp only;omega
 exact Nat.le_trans (Nat.mul_le_mul a1 a2) (by decide)
def xV (s:aC) (n:bk) (rs:List aP):Span × List Int × Int :=
 if (cV s n rs).2 ≠ 0 then (NO,[],(cV s n rs).2)
 else if (bz Prod.fst (jR s n rs)).2=false then ((bz Prod.fst (jR s n rs)).1,[],9)
 else ((bz Prod.fst (jR s n rs)).1,dL (jR s n rs) 32,0)
theorem KG (A B C:AB) (L:List Int) (v c:Nat):Fz [A,B,C,.cells (L.map ah) 1 v] (.bX 3 v 0 L.length c) (.sl (L.map eI) false) :=
 Fz.row (es:=1) rfl (by simp) (by simp) (fun el hel=>by obtain ⟨x,_,rfl⟩:=List.mem_map.1 hel;rfl) (by rw [qP,List.drop_zero,List.take_of_length_le (by simp)]) (by rw [qP];exact C6 _) (fun h=>Bool.noConfusion h)
theorem M6 (n:Nat):∀ (L:List Int),ig n (L.map ah)=true
 | []=>rfl
 | _ :: l=>by
  show (AV.di n (ah _) && ig n (l.map ah))=true
  rw [M6 n l]
  rfl
theorem Bj {A B C:AB} (hA:AB.di 4 A=true) (hB:AB.di 4 B=true) (hC:AB.di 4 C=true) (L:List Int) (v:Nat):([A,B,C,.cells (L.map ah) 1 v]:List AB).all (AB.di 4)=true:=by
 have h:AB.di 4 (.cells (L.map ah) 1 v)=true:=M6 4 L
 simp only [List.all_cons,List.all_nil,hA,hB,hC,h,Bool.and_true]
theorem KH (one:Bool) (s:aC) (h:s.Ok) (n:bk) (rs:List aP) (f:Bool) (hr:rs.length≤maxLen) :
  Pu one 29 [.ag (bf s),.ag (jW n),.sl (rs.map aL) f] (.tp [.ag (ck (xV s n rs).1),.sl ((xV s n rs).2.1.map eI) false,ah (xV s n rs).2.2]):=by
 have hen:=qf one s h n rs f hr
 unfold xV
 by_cases e0:(cV s n rs).2=0
 ·rw [if_neg (by omega)]
  have ho:=kO e0
  rw [e0] at hen
  have c1:=Bh true f ho
  have c2:=ho.ch true f
  have hg:=ho.gh one f
  have e1:=Fc one 74 [] [] rfl _ _ _ Prod.fst _ hg (fun x hx=>L4 one x.1 x.2)
  have hmem:∀ x ∈ jR s n rs,(1≤x.1∧x.1≤200)∧0≤x.2∧x.2≤31:=fun x hx=>ho.hb x (List.mem_filter.1 hx).1
  have hlen:=GR ho
  generalize bz Prod.fst (jR s n rs)=z at *
  generalize jR s n rs=L at *
  obtain ⟨z1,z2⟩:=z
  dsimp only at e1
  cases z2 with
  | false =>
   refine af.body (fn:=Tryz.f29) rfl rfl rfl rfl ?_
   refine aa (mu:=fun _=>false) ?_
   repeat' (first |refine af.call hen rfl rfl ?_ |refine ⟨_,_,.inl ⟨rfl,rfl⟩,c1,?_⟩ |refine ⟨_,_,.inl ⟨rfl,rfl⟩,c2,?_⟩ |refine af.call e1 rfl rfl ?_ |refine u1 ?_ |refine u2 ?_ |fail)
   exact ⟨[_,_,_],⟨Fz.deep rfl,Fz.nil,Fz.deep rfl,trivial⟩,rfl⟩
  | true =>
   refine af.body (fn:=Tryz.f29) rfl rfl rfl rfl ?_
   refine RM.de (mu:=fun _=>false) ?_
   repeat' (first |refine u1 ?_ |refine u2 ?_ |fail)
   refine RM.de (mu:=fun _=>false) ?_
   repeat' (first |refine u1 ?_ |refine u2 ?_ |refine af.call hen rfl rfl ?_ |fail)
   refine RM.de (mu:=fun _=>false) ?_
   repeat' (first |refine u1 ?_ |fail)
   refine RM.de (mu:=fun _=>false) ?_
   repeat' (first |refine ⟨_,_,.inl ⟨rfl,rfl⟩,c1,?_⟩ |refine ⟨_,_,.inl ⟨rfl,rfl⟩,c2,?_⟩ |refine u1 ?_ |refine u2 ?_ |fail)
   refine RM.de (mu:=fun _=>false) ?_
   repeat' (first |refine u1 ?_ |refine u2 ?_ |refine af.call e1 rfl rfl ?_ |fail)
   refine RM.de (mu:=fun _=>false) ?_
   repeat' (first |refine u1 ?_ |fail)
   refine RM.de (mu:=fun _=>false) ?_
   repeat' (first |refine u1 ?_ |fail)
   refine az.seq ?_
   refine RM.de (mu:=fun _=>false) ?_
   repeat' (first |refine u1 ?_ |fail)
   refine az.block ?_
   refine az.range (fun i=>[.cells (ck z1) 0 0,.cells (cx s n rs f) 0 0,.cells (jZ (L.take i)) 0 0]) (fun _=>bN.none) (fun _=>True) rfl hg rfl rfl trivial (fun i x hx _=>?_) (fun _=>?_)
   ·obtain ⟨x,hxi,rfl⟩:=xF hx
    have hxb:=hmem x (List.mem_of_getElem? hxi)
    obtain ⟨w,hw⟩:∃ w:Nat,x.2=w:=⟨x.2.toNat,by omega⟩
    have hw32:w < 32:=by omega
    have hcb:=KF (L:=L.take i) w
    have hcl:(L.take i).length≤L.length:=by rw [List.length_take];omega
    have hst:cw (jZ (L.take i)) [ah (nG (L.take i) w+1)] (0+(w:Int).toNat * 1)=jZ (L.take (i+1)):=by
     rw [List.take_add_one,hxi,Nat.zero_add,Nat.mul_one,Int.toNat_natCast]
     exact I9 hw hw32
    have hat:(jZ (L.take i))[0+(w:Int).toNat * 1]?=some (ah (nG (L.take i) w)):=by
     rw [Nat.zero_add,Nat.mul_one,Int.toNat_natCast]
     exact Bi hw32
    have hln:0+(w:Int).toNat * 1+1≤(jZ (L.take i)).length:=by rw [vL,Int.toNat_natCast];omega
    obtain ⟨x1,x2⟩:=x
    dsimp only at hw
    subst hw
    generalize nG (L.take i) w=c at *
    refine ⟨rfl,?_⟩
    refine aa (mu:=fun _=>false) ?_
    repeat' (first |refine u1 ?_ |refine u2 ?_ |fail)
    refine aa (mu:=fun _=>false) ?_
    repeat' (first |refine ⟨_,_,rfl,_,hat,?_⟩ |refine ⟨_,_,rfl,rfl,rfl,rfl,hln,?_⟩ |refine ⟨⟨by omega,by omega⟩,?_⟩ |refine u1 ?_ |refine u2 ?_ |fail)
    exact ⟨_,ai.to (l:=[]) 3 (congrArg (fun c=>[AB.cells (ck z1) 0 0,.cells (cx s n rs f) 0 0,.cells c 0 0]) hst) trivial (Nat.le_refl _) rfl rfl⟩
   ·rw [List.length_map,List.take_length]
    refine aa (mu:=fun t=>Nat.beq t 57) ?_
    repeat' (first |refine u1 ?_ |refine u2 ?_ |fail)
    refine az.aK (ai.trans (ai.ue 1) (ai.MI (l:=[(6,.ptr 0 0 0),(7,.bX 3 (0,0,0).2.1 0 (dL L (0,0,0).1).length (0,0,0).2.2),(47,.ag (jZ L)),(48,ah ((0,0,0).1:Nat))]) (hp:=[.cells (ck z1) 0 0,.cells (cx s n rs f) 0 0,.cells (jZ L) 0 0,.cells ((dL L (0,0,0).1).map ah) 1 (0,0,0).2.1]) 4 rfl ⟨dR.refl _,dR.ud,dR.of (show AV.ag (List.take 32 (List.drop 0 (jZ L)))=.ag (jZ L) by rw [List.drop_zero,List.take_of_length_le (by rw [vL];exact Nat.le_refl _)]),dR.refl _,trivial⟩ (Nat.zero_le _) rfl (Bj rfl rfl rfl _ _))) ?_
    refine az.loop (fun x:Nat × Nat × Nat=>x.1≤32∧(x.2.2=(dL L x.1).length∨x.2.2=(dL L x.1).length+1)) (fun x=>⟨aX [(6,.ptr 0 0 0),(7,.bX 3 x.2.1 0 (dL L x.1).length x.2.2),(47,.ag (jZ L)),(48,ah (x.1:Nat))],[.cells (ck z1) 0 0,.cells (cx s n rs f) 0 0,.cells (jZ L) 0 0,.cells ((dL L x.1).map ah) 1 x.2.1],bN.none,false,0⟩) (fun x=>32 - x.1) ?_ (0,0,0) ⟨Nat.zero_le _,.inl rfl⟩
    rintro ⟨k,aD,c⟩ ⟨hk,hcap⟩
    dsimp only at hk hcap
    show az _ _ _ _ ⟨aX [(6,.ptr 0 0 0),(7,.bX 3 (k,aD,c).2.1 0 (dL L (k,aD,c).1).length (k,aD,c).2.2),(47,.ag (jZ L)),(48,ah ((k,aD,c).1:Nat))],[.cells (ck z1) 0 0,.cells (cx s n rs f) 0 0,.cells (jZ L) 0 0,.cells ((dL L (k,aD,c).1).map ah) 1 (k,aD,c).2.1],bN.none,false,0⟩ _
    dsimp only
    refine aa (mu:=fun t=>Nat.beq t 57) ?_
    have hwl:=GQ L k
    by_cases hlt:k < 32
    ·have d1:decide ((k:Int) < 32)=true:=decide_eq_true (by omega)
     have hsu:=Ee L k
     by_cases hp0:0 < nG L k
     ·have d2:decide (0 < nG L k)=true:=decide_eq_true hp0
      rw [if_pos hp0] at hsu
      have hb:((dL L k).length+[eI (k:Int)].length) * 8≤140737488355328∧(dL L k).length+[eI (k:Int)].length≤9223372036854775807:=by simp only [List.length_singleton];omega
      repeat' (first |refine M5 rfl rfl hlt ?_ |(refine RM.F5 (cs:=(dL L k).map ah) (n:=(dL L k).length) (els:=[eI (k:Int)]) rfl rfl rfl rfl rfl (fun el hel=>(by cases hel with|head=>rfl|tail _ hx=>cases hx)) rfl rfl (by rw [List.length_map];exact (Nat.mul_one _).symm) hcap hb (fun v c' hc'=>?_)) |refine u1 ?_ |(((with_reducible show Nat.beq _ _=true∧_);refine And.intro rfl ?_;show bw _=true∧_;refine And.intro rfl ?_)) |refine u2 ?_ |fail)
      refine ⟨(k+1,v,c'),⟨hlt,by dsimp only;rw [hsu,List.length_append];exact hc'⟩,(by dsimp only;omega),?_⟩
      show ai _ ⟨aX [(6,.ptr 0 0 0),(7,.bX 3 (k+1,v,c').2.1 0 (dL L (k+1,v,c').1).length (k+1,v,c').2.2),(47,.ag (jZ L)),(48,ah ((k+1,v,c').1:Nat))],[.cells (ck z1) 0 0,.cells (cx s n rs f) 0 0,.cells (jZ L) 0 0,.cells ((dL L (k+1,v,c').1).map ah) 1 (k+1,v,c').2.1],bN.none,false,0⟩
      dsimp only
      rw [hsu]
      exact ai.to 4 (by show [AB.cells (ck z1) 0 0,.cells (cx s n rs f) 0 0,.cells (jZ L) 0 0,.cells ((dL L k).map ah++[ah (k:Int)]) 1 v]=_;rw [List.map_append];rfl) ⟨rfl,(by show AV.bX 3 v 0 ((dL L k).length+1) c'=AV.bX 3 v 0 (dL L k++[(k:Int)]).length c';rw [List.length_append];rfl),rfl,aH (by simp),trivial⟩ (Nat.zero_le _) rfl (Bj rfl rfl rfl _ _)
     ·have d2:decide (0 < nG L k)=false:=decide_eq_false hp0
      rw [if_neg hp0] at hsu
      repeat' (first |refine M5 rfl rfl hlt ?_ |refine u1 ?_ |fail)
      refine ⟨(k+1,aD,c),⟨hlt,by dsimp only;rw [hsu];exact hcap⟩,(by dsimp only;omega),?_⟩
      show ai _ ⟨aX [(6,.ptr 0 0 0),(7,.bX 3 (k+1,aD,c).2.1 0 (dL L (k+1,aD,c).1).length (k+1,aD,c).2.2),(47,.ag (jZ L)),(48,ah ((k+1,aD,c).1:Nat))],[.cells (ck z1) 0 0,.cells (cx s n rs f) 0 0,.cells (jZ L) 0 0,.cells ((dL L (k+1,aD,c).1).map ah) 1 (k+1,aD,c).2.1],bN.none,false,0⟩
      dsimp only
      rw [hsu]
      exact ai.to 4 rfl ⟨rfl,rfl,rfl,aH (by simp),trivial⟩ (Nat.zero_le _) rfl (Bj rfl rfl rfl _ _)
    ·have hk2:k=32:=by omega
     subst hk2
     repeat' (first |refine u1 ?_ |refine u2 ?_ |fail)
     exact ⟨[_,_,_],⟨Fz.deep rfl,KG _ _ _ _ _ _,Fz.deep rfl,trivial⟩,rfl⟩
 ·rw [if_pos (by omega)]
  have d0:(!decide ((cV s n rs).2=0))=true:=by rw [decide_eq_false e0];rfl
  refine af.body (fn:=Tryz.f29) rfl rfl rfl rfl ?_
  refine aa (mu:=fun _=>false) ?_
  repeat' (first |refine u1 ?_ |refine u2 ?_ |refine af.call hen rfl rfl ?_ |fail)
  exact ⟨[_,_,_],⟨Fz.deep rfl,Fz.nil,Fz.deep rfl,trivial⟩,rfl⟩
end Go.Proofs.YtalcbebjpgfnfaaGreat
open Go Go.RM
namespace Go.Proofs.YtalcbebjpgfnfaaGreat
set_option maxRecDepth 100000
theorem Oa:aA TT.P (underlying 3)=some (.int .i64):=by kernel_rfl
theorem Mf (b:Bool) (k:Int):aA TT.P (Instr.checkKey b 10000 3 (vI k))=some ():=by
 cases b <;> rfl
theorem Fo (k:Int) (w:IntKind):∀ (ks:List Int) (es:List MapEntry) (i:Nat),es.map (·.key)=ks.map vI→∃ r,Instr.findNow (.int w) (vI k) es i=some r∧r.map (·.1)=(ks.findIdx? fun x=>decide (k=x)).map fun j=>i+j
 | [],es,i,h=>by
  have:es=[]:=by simpa using h
  subst this
  exact ⟨none,rfl,rfl⟩
 | a :: ks,es,i,h=>by
  cases es with
  | nil=>simp at h
  | cons e es =>
   simp only [List.map_cons,List.cons.injEq] at h
   have hs:Instr.sameNow (.int w) (vI k) e.key=some (k == a):=by
    rw [h.1]
    show (if IntKind.i64=IntKind.i64 then some (k == a) else none)=_
    rw [if_pos rfl]
   unfold Instr.findNow
   rw [hs,List.findIdx?_cons]
   by_cases hk:k=a
   ·subst hk
    exact ⟨some (i,e.val),by simp,by simp⟩
   ·obtain ⟨r,h1,h2⟩:=Fo k w ks es (i+1) h.2
    refine ⟨r,by rw [h1,show (k == a)=false from beq_eq_false_iff_ne.2 hk],?_⟩
    rw [h2,decide_eq_false hk]
    simp only [Bool.false_eq_true,if_false,Option.map_map]
    congr 1
    funext j
    show i+1+j=i+(j+1)
    omega
theorem Ja (b:Bool) (k:Int) (ks:List Int):Cq TT b 3 (vI k) (ks.map vI) (ks.findIdx? fun x=>decide (k=x)):=by
 intro es he
 have hall:(es.all fun e=>flat e.key)=true:=by
  rw [List.all_eq_true]
  intro e hm
  have:e.key ∈ ks.map vI:=by rw [←he];exact List.mem_map.2 ⟨e,hm,rfl⟩
  obtain ⟨x,_,hx⟩:=List.mem_map.1 this
  rw [←hx]
  rfl
 unfold oy
 rw [show flat (vI k)=true from rfl,hall,Mf b k]
 simp only [Bool.and_self,cond_true]
 obtain ⟨r,h1,h2⟩:=Fo k .i64 ks (es.map fun e=>{e with val:=.nilIface}) 0 (by rw [List.map_map];exact he)
 have h3:aA TT.P (Instr.findKey 3 (vI k) (es.map fun e=>{e with val:=.nilIface}))=some r:=by
  unfold Instr.findKey
  rw [jc,Oa,Option.bind_some,h1]
  rfl
 rw [h3,Option.map_some,h2]
 congr 1
 cases ks.findIdx? fun x=>decide (k=x) <;> simp
theorem Jb (k:Int):Instr.sameBits 10000 (vI k) (vI k)=true:=by
 show (IntKind.i64 == IntKind.i64 && k == k)=true
 simp
end Go.Proofs.YtalcbebjpgfnfaaGreat
