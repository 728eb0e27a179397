/-
  Contracts of the program's functions and of the document's. Lemmas alone; their conditions stand in them.
-/
import Derived.Test.YtichbhmnhkegiaaGreatVA3
import Derived.Test.YtichbhmnhkegiaaGreatVK1
import Derived.Test.YtichbhmnhkegiaaGreatVK2
import Derived.Test.YtichbhmnhkegiaaGreatVK6
open Go Go.RM Go.AirLaw
namespace Go.Proofs.YtichbhmnhkegiaaGreat
set_option maxRecDepth 100000
set_option maxHeartbeats 4000000
theorem m9:∀ (L:List Int),(L.map eI).flatten=L.map ah
 | []=>rfl
 | a :: l=>by
  show ah a :: (l.map eI).flatten=ah a :: l.map ah
  rw [m9 l]
theorem yp:∀ (L:List Int),cA (L.map ah)=true
 | []=>rfl
 | _ :: l=>yp l
def cy (L:List (Int × Int)) (k:Nat):List Int:=((List.range k).filter fun w=>decide (0 < kD L w)).map Int.ofNat
theorem zA (L:List (Int × Int)) (k:Nat):cy L (k+1)=if 0 < kD L k then cy L k++[(k:Int)] else cy L k:=by
 unfold cy
 rw [List.range_succ,List.filter_append]
 by_cases h:0 < kD L k
 ·rw [if_pos h]
  simp [h]
 ·rw [if_neg h]
  simp [h]
theorem Bo (L:List (Int × Int)) (k:Nat):(cy L k).length≤k:=by
 unfold cy
 rw [List.length_map]
 exact Nat.le_trans (List.length_filter_le _ _) (by simp)
theorem DH {L:List (Int × Int)} (w:Nat):0≤kD L w∧kD L w≤L.length:=by
 unfold kD
 have:=List.length_filter_le (fun x:Int × Int=>x.2 == (w:Int)) L
 omega
theorem Bp {s:au} {n:aE} {rs:List aA} (h:nG s n rs):(gM s n rs).length≤100000:=by
 unfold gM
 refine Nat.le_trans (List.length_filter_le _ _) ?_
 unfold kX
 rw [kB,bV,bV]
 have h1:=h.mM.bW
 have h2:=h.eK
 have a1:bU s.bW≤200:=by unfold bU;omega
 have a2:bU ⟨n.eT,n.eT+n.eK - 1⟩≤32:=by unfold bU;dsimp only;omega
 exact Nat.le_trans (Nat.mul_le_mul a1 a2) (by decide)
def tu (s:au) (n:aE) (rs:List aA):Span × List Int × Int :=
 if (bT s n rs).2 ≠ 0 then (FH,[],(bT s n rs).2)
 else if (aG Prod.fst (gM s n rs)).2=false then ((aG Prod.fst (gM s n rs)).1,[],9)
 else ((aG Prod.fst (gM s n rs)).1,cy (gM s n rs) 32,0)
theorem DI (A B C:AB) (L:List Int) (v c:Nat):Fz [A,B,C,.cells (L.map ah) 1 v] (.bF 3 v 0 L.length c) (.sl (L.map eI) false) :=
 Fz.row (es:=1) rfl (by simp) (by simp) (fun el hel=>by obtain ⟨x,_,rfl⟩:=List.mem_map.1 hel;rfl) (by rw [m9,List.drop_zero,List.take_of_length_le (by simp)]) (by rw [m9];exact yp _) (fun h=>Bool.noConfusion h)
theorem Fp (n:Nat):∀ (L:List Int),mJ n (L.map ah)=true
 | []=>rfl
 | _ :: l=>by
  show (AV.cO n (ah _) && mJ n (l.map ah))=true
  rw [Fp n l]
  rfl
theorem wB {A B C:AB} (hA:AB.cO 4 A=true) (hB:AB.cO 4 B=true) (hC:AB.cO 4 C=true) (L:List Int) (v:Nat):([A,B,C,.cells (L.map ah) 1 v]:List AB).all (AB.cO 4)=true:=by
 have h:AB.cO 4 (.cells (L.map ah) 1 v)=true:=Fp 4 L
 simp only [List.all_cons,List.all_nil,hA,hB,hC,h,Bool.and_true]
theorem DJ (one:Bool) (s:au) (h:s.Ok) (n:aE) (rs:List aA) (f:Bool) (hr:rs.length≤maxLen) :
  Pu one 30 [.ag (bz s),.ag (gu n),.sl (rs.map az) f] (.tp [.ag (bw (tu s n rs).1),.sl ((tu s n rs).2.1.map eI) false,ah (tu s n rs).2.2]):=by
 have hen:=mz one s h n rs f hr
 unfold tu
 by_cases e0:(bT s n rs).2=0
 ·rw [if_neg (by omega)]
  have ho:=iD e0
  rw [e0] at hen
  have c1:=wv true f ho
  have c2:=ho.ch true f
  have hg:=ho.gh one f
  have e1:=Al one 89 [] [] rfl _ _ _ Prod.fst _ hg (fun x hx=>EF one x.1 x.2)
  have hmem:∀ x ∈ gM s n rs,(1≤x.1∧x.1≤200)∧0≤x.2∧x.2≤31:=fun x hx=>ho.hb x (List.mem_filter.1 hx).1
  have hlen:=Bp ho
  generalize aG Prod.fst (gM s n rs)=z at *
  generalize gM s n rs=L at *
  obtain ⟨z1,z2⟩:=z
  dsimp only at e1
  cases z2 with
  | false =>
   refine af.body (fn:=Tryz.f30) rfl rfl rfl rfl ?_
   refine aa (mu:=fun _=>false) ?_
   repeat' (first |refine af.call hen rfl rfl ?_ |refine ⟨_,_,.inl ⟨rfl,rfl⟩,c1,?_⟩ |refine ⟨_,_,.inl ⟨rfl,rfl⟩,c2,?_⟩ |refine af.call e1 rfl rfl ?_ |refine u1 ?_ |refine u2 ?_ |fail)
   exact ⟨[_,_,_],⟨Fz.deep rfl,Fz.nil,Fz.deep rfl,trivial⟩,rfl⟩
  | true =>
   refine af.body (fn:=Tryz.f30) rfl rfl rfl rfl ?_
   refine RM.dA (mu:=fun _=>false) ?_
   repeat' (first |refine u1 ?_ |refine u2 ?_ |fail)
   refine RM.dA (mu:=fun _=>false) ?_
   repeat' (first |refine u1 ?_ |refine u2 ?_ |refine af.call hen rfl rfl ?_ |fail)
   refine RM.dA (mu:=fun _=>false) ?_
   repeat' (first |refine u1 ?_ |fail)
   refine RM.dA (mu:=fun _=>false) ?_
   repeat' (first |refine ⟨_,_,.inl ⟨rfl,rfl⟩,c1,?_⟩ |refine ⟨_,_,.inl ⟨rfl,rfl⟩,c2,?_⟩ |refine u1 ?_ |refine u2 ?_ |fail)
   refine RM.dA (mu:=fun _=>false) ?_
   repeat' (first |refine u1 ?_ |refine u2 ?_ |refine af.call e1 rfl rfl ?_ |fail)
   refine RM.dA (mu:=fun _=>false) ?_
   repeat' (first |refine u1 ?_ |fail)
   refine RM.dA (mu:=fun _=>false) ?_
   repeat' (first |refine u1 ?_ |fail)
   refine av.seq ?_
   refine RM.dA (mu:=fun _=>false) ?_
   repeat' (first |refine u1 ?_ |fail)
   refine av.block ?_
   refine av.range (fun i=>[.cells (bw z1) 0 0,.cells (bh s n rs f) 0 0,.cells (gV (L.take i)) 0 0]) (fun _=>bq.none) (fun _=>True) rfl hg rfl rfl trivial (fun i x hx _=>?_) (fun _=>?_)
   ·obtain ⟨x,hxi,rfl⟩:=tj hx
    have hxb:=hmem x (List.mem_of_getElem? hxi)
    obtain ⟨w,hw⟩:∃ w:Nat,x.2=w:=⟨x.2.toNat,by omega⟩
    have hw32:w < 32:=by omega
    have hcb:=DH (L:=L.take i) w
    have hcl:(L.take i).length≤L.length:=by rw [List.length_take];omega
    have hst:dh (gV (L.take i)) [ah (kD (L.take i) w+1)] (0+(w:Int).toNat * 1)=gV (L.take (i+1)):=by
     rw [List.take_add_one,hxi,Nat.zero_add,Nat.mul_one,Int.toNat_natCast]
     exact CE hw hw32
    have hat:(gV (L.take i))[0+(w:Int).toNat * 1]?=some (ah (kD (L.take i) w)):=by
     rw [Nat.zero_add,Nat.mul_one,Int.toNat_natCast]
     exact wA hw32
    have hln:0+(w:Int).toNat * 1+1≤(gV (L.take i)).length:=by rw [rj,Int.toNat_natCast];omega
    obtain ⟨x1,x2⟩:=x
    dsimp only at hw
    subst hw
    generalize kD (L.take i) w=c at *
    refine ⟨rfl,?_⟩
    refine aa (mu:=fun _=>false) ?_
    repeat' (first |refine u1 ?_ |refine u2 ?_ |fail)
    refine aa (mu:=fun _=>false) ?_
    repeat' (first |refine ⟨_,_,rfl,_,hat,?_⟩ |refine ⟨_,_,rfl,rfl,rfl,rfl,hln,?_⟩ |refine ⟨⟨by omega,by omega⟩,?_⟩ |refine u1 ?_ |refine u2 ?_ |fail)
    exact ⟨_,ai.to (l:=[]) 3 (congrArg (fun c=>[AB.cells (bw z1) 0 0,.cells (bh s n rs f) 0 0,.cells c 0 0]) hst) trivial (Nat.le_refl _) rfl rfl⟩
   ·rw [List.length_map,List.take_length]
    refine aa (mu:=fun t=>Nat.beq t 57) ?_
    repeat' (first |refine u1 ?_ |refine u2 ?_ |fail)
    refine av.aY (ai.trans (ai.zl 1) (ai.FL (l:=[(6,.ptr 0 0 0),(7,.bF 3 (0,0,0).2.1 0 (cy L (0,0,0).1).length (0,0,0).2.2),(47,.ag (gV L)),(48,ah ((0,0,0).1:Nat))]) (hp:=[.cells (bw z1) 0 0,.cells (bh s n rs f) 0 0,.cells (gV L) 0 0,.cells ((cy L (0,0,0).1).map ah) 1 (0,0,0).2.1]) 4 rfl ⟨dW.refl _,dW.zk,dW.of (show AV.ag (List.take 32 (List.drop 0 (gV L)))=.ag (gV L) by rw [List.drop_zero,List.take_of_length_le (by rw [rj];exact Nat.le_refl _)]),dW.refl _,trivial⟩ (Nat.zero_le _) rfl (wB rfl rfl rfl _ _))) ?_
    refine av.loop (fun x:Nat × Nat × Nat=>x.1≤32∧(x.2.2=(cy L x.1).length∨x.2.2=(cy L x.1).length+1)) (fun x=>⟨aP [(6,.ptr 0 0 0),(7,.bF 3 x.2.1 0 (cy L x.1).length x.2.2),(47,.ag (gV L)),(48,ah (x.1:Nat))],[.cells (bw z1) 0 0,.cells (bh s n rs f) 0 0,.cells (gV L) 0 0,.cells ((cy L x.1).map ah) 1 x.2.1],bq.none,false,0⟩) (fun x=>32 - x.1) ?_ (0,0,0) ⟨Nat.zero_le _,.inl rfl⟩
    rintro ⟨k,ver,c⟩ ⟨hk,hcap⟩
    dsimp only at hk hcap
    show av _ _ _ _ ⟨aP [(6,.ptr 0 0 0),(7,.bF 3 (k,ver,c).2.1 0 (cy L (k,ver,c).1).length (k,ver,c).2.2),(47,.ag (gV L)),(48,ah ((k,ver,c).1:Nat))],[.cells (bw z1) 0 0,.cells (bh s n rs f) 0 0,.cells (gV L) 0 0,.cells ((cy L (k,ver,c).1).map ah) 1 (k,ver,c).2.1],bq.none,false,0⟩ _
    dsimp only
    refine aa (mu:=fun t=>Nat.beq t 57) ?_
    have hwl:=Bo L k
    by_cases hlt:k < 32
    ·have d1:decide ((k:Int) < 32)=true:=decide_eq_true (by omega)
     have hsu:=zA L k
     by_cases hp0:0 < kD L k
     ·have d2:decide (0 < kD L k)=true:=decide_eq_true hp0
      rw [if_pos hp0] at hsu
      have hb:((cy L k).length+[eI (k:Int)].length) * 8≤140737488355328∧(cy L k).length+[eI (k:Int)].length≤9223372036854775807:=by simp only [List.length_singleton];omega
      repeat' (first |refine Fo rfl rfl hlt ?_ |(refine RM.Dv (cs:=(cy L k).map ah) (n:=(cy L k).length) (els:=[eI (k:Int)]) rfl rfl rfl rfl rfl (fun el hel=>(by cases hel with|head=>rfl|tail _ hx=>cases hx)) rfl rfl (by rw [List.length_map];exact (Nat.mul_one _).symm) hcap hb (fun v c' hc'=>?_)) |refine u1 ?_ |(((with_reducible show Nat.beq _ _=true∧_);refine And.intro rfl ?_;show cA _=true∧_;refine And.intro rfl ?_)) |refine u2 ?_ |fail)
      refine ⟨(k+1,v,c'),⟨hlt,by dsimp only;rw [hsu,List.length_append];exact hc'⟩,(by dsimp only;omega),?_⟩
      show ai _ ⟨aP [(6,.ptr 0 0 0),(7,.bF 3 (k+1,v,c').2.1 0 (cy L (k+1,v,c').1).length (k+1,v,c').2.2),(47,.ag (gV L)),(48,ah ((k+1,v,c').1:Nat))],[.cells (bw z1) 0 0,.cells (bh s n rs f) 0 0,.cells (gV L) 0 0,.cells ((cy L (k+1,v,c').1).map ah) 1 (k+1,v,c').2.1],bq.none,false,0⟩
      dsimp only
      rw [hsu]
      exact ai.to 4 (by show [AB.cells (bw z1) 0 0,.cells (bh s n rs f) 0 0,.cells (gV L) 0 0,.cells ((cy L k).map ah++[ah (k:Int)]) 1 v]=_;rw [List.map_append];rfl) ⟨rfl,(by show AV.bF 3 v 0 ((cy L k).length+1) c'=AV.bF 3 v 0 (cy L k++[(k:Int)]).length c';rw [List.length_append];rfl),rfl,cG (by simp),trivial⟩ (Nat.zero_le _) rfl (wB rfl rfl rfl _ _)
     ·have d2:decide (0 < kD L k)=false:=decide_eq_false hp0
      rw [if_neg hp0] at hsu
      repeat' (first |refine Fo rfl rfl hlt ?_ |refine u1 ?_ |fail)
      refine ⟨(k+1,ver,c),⟨hlt,by dsimp only;rw [hsu];exact hcap⟩,(by dsimp only;omega),?_⟩
      show ai _ ⟨aP [(6,.ptr 0 0 0),(7,.bF 3 (k+1,ver,c).2.1 0 (cy L (k+1,ver,c).1).length (k+1,ver,c).2.2),(47,.ag (gV L)),(48,ah ((k+1,ver,c).1:Nat))],[.cells (bw z1) 0 0,.cells (bh s n rs f) 0 0,.cells (gV L) 0 0,.cells ((cy L (k+1,ver,c).1).map ah) 1 (k+1,ver,c).2.1],bq.none,false,0⟩
      dsimp only
      rw [hsu]
      exact ai.to 4 rfl ⟨rfl,rfl,rfl,cG (by simp),trivial⟩ (Nat.zero_le _) rfl (wB rfl rfl rfl _ _)
    ·have hk2:k=32:=by omega
     subst hk2
     repeat' (first |refine u1 ?_ |refine u2 ?_ |fail)
     exact ⟨[_,_,_],⟨Fz.deep rfl,DI _ _ _ _ _ _,Fz.deep rfl,trivial⟩,rfl⟩
 ·rw [if_pos (by omega)]
  have d0:(!decide ((bT s n rs).2=0))=true:=by rw [decide_eq_false e0];rfl
  refine af.body (fn:=Tryz.f30) rfl rfl rfl rfl ?_
  refine aa (mu:=fun _=>false) ?_
  repeat' (first |refine u1 ?_ |refine u2 ?_ |refine af.call hen rfl rfl ?_ |fail)
  exact ⟨[_,_,_],⟨Fz.deep rfl,Fz.nil,Fz.deep rfl,trivial⟩,rfl⟩
end Go.Proofs.YtichbhmnhkegiaaGreat
open Go Go.RM
namespace Go.Proofs.YtichbhmnhkegiaaGreat
set_option maxRecDepth 100000
theorem F0:ak TT.P (underlying 3)=some (.int .i64):=by kernel_rfl
theorem EH (b:Bool) (k:Int):ak TT.P (Instr.checkKey b 10000 3 (vI k))=some ():=by
 cases b <;> rfl
theorem Ao (k:Int) (w:IntKind):∀ (ks:List Int) (es:List MapEntry) (i:Nat),es.map (·.key)=ks.map vI→∃ r,Instr.findNow (.int w) (vI k) es i=some r∧r.map (·.1)=(ks.findIdx? fun x=>decide (k=x)).map fun j=>i+j
 | [],es,i,h=>by
  have:es=[]:=by simpa using h
  subst this
  exact ⟨none,rfl,rfl⟩
 | a :: ks,es,i,h=>by
  cases es with
  | nil=>simp at h
  | cons e es =>
   simp only [List.map_cons,List.cons.injEq] at h
   have hs:Instr.sameNow (.int w) (vI k) e.key=some (k == a):=by
    rw [h.1]
    show (if IntKind.i64=IntKind.i64 then some (k == a) else none)=_
    rw [if_pos rfl]
   unfold Instr.findNow
   rw [hs,List.findIdx?_cons]
   by_cases hk:k=a
   ·subst hk
    exact ⟨some (i,e.val),by simp,by simp⟩
   ·obtain ⟨r,h1,h2⟩:=Ao k w ks es (i+1) h.2
    refine ⟨r,by rw [h1,show (k == a)=false from beq_eq_false_iff_ne.2 hk],?_⟩
    rw [h2,decide_eq_false hk]
    simp only [Bool.false_eq_true,if_false,Option.map_map]
    congr 1
    funext j
    show i+1+j=i+(j+1)
    omega
theorem CF (b:Bool) (k:Int) (ks:List Int):xO TT b 3 (vI k) (ks.map vI) (ks.findIdx? fun x=>decide (k=x)):=by
 intro es he
 have hall:(es.all fun e=>flat e.key)=true:=by
  rw [List.all_eq_true]
  intro e hm
  have:e.key ∈ ks.map vI:=by rw [←he];exact List.mem_map.2 ⟨e,hm,rfl⟩
  obtain ⟨x,_,hx⟩:=List.mem_map.1 this
  rw [←hx]
  rfl
 unfold k7
 rw [show flat (vI k)=true from rfl,hall,EH b k]
 simp only [Bool.and_self,cond_true]
 obtain ⟨r,h1,h2⟩:=Ao k .i64 ks (es.map fun e=>{e with val:=.nilIface}) 0 (by rw [List.map_map];exact he)
 have h3:ak TT.P (Instr.findKey 3 (vI k) (es.map fun e=>{e with val:=.nilIface}))=some r:=by
  unfold Instr.findKey
  rw [fT,F0,Option.bind_some,h1]
  rfl
 rw [h3,Option.map_some,h2]
 congr 1
 cases ks.findIdx? fun x=>decide (k=x) <;> simp
theorem CG (k:Int):Instr.sameBits 10000 (vI k) (vI k)=true:=by
 show (IntKind.i64 == IntKind.i64 && k == k)=true
 simp
end Go.Proofs.YtichbhmnhkegiaaGreat
open Go Go.RM Go.AirLaw
namespace Go.Proofs.YtichbhmnhkegiaaGreat
set_option maxRecDepth 100000
set_option maxHeartbeats 4000000
theorem u9 (one:Bool) (a b:List Int) (f g:Bool) (ha:a.length≤1000) (hb:b.length≤1000):Pu one 135 [.sl (a.map eI) f,.sl (b.map eI) g] (ah (fV a b)):=by
 have ea:((a.map eI).length:Int)=a.length:=by simp
 have eb:((b.map eI).length:Int)=b.length:=by simp
 refine af.body (fn:=Tryz.f135) rfl rfl rfl rfl ?_
 refine aa (mu:=fun _=>false) ?_
 repeat' (first |refine u1 ?_ |fail)
 refine av.aY (ai.to (l:=[(0,.sl (a.map eI) f),(1,.sl (b.map eI) g),(9,.sl (a.map eI) f),(10,ah ((a.map eI).length:Int)),(11,ah (0:Nat))]) (hp:=[]) 0 rfl ⟨rfl,rfl,rfl,rfl,rfl,trivial⟩ (Nat.zero_le _) rfl rfl) ?_
 refine av.loop (fun j:Nat=>(j≤a.length∧j≤b.length)∧fV a b=fV (a.drop j) (b.drop j)) (fun j=>⟨aP [(0,.sl (a.map eI) f),(1,.sl (b.map eI) g),(9,.sl (a.map eI) f),(10,ah ((a.map eI).length:Int)),(11,ah (j:Nat))],[],bq.none,false,0⟩) (fun j=>a.length - j) ?_ 0 ⟨⟨Nat.zero_le _,Nat.zero_le _⟩,rfl⟩
 rintro j ⟨⟨hj,hjb⟩,hcm⟩
 refine aa (mu:=fun _=>false) ?_
 repeat' (first |refine u1 ?_ |fail)
 refine RM.e1 rfl ⟨fun hc=>?_,fun hc=>?_⟩
 ·have hlt:j < a.length:=by simpa only [ea,decide_eq_true_eq,Int.ofNat_lt] using hc
  have hda:=List.drop_eq_getElem_cons hlt
  have hata:(a.map eI)[((j:Nat):Int).toNat]?=some (eI a[j]):=fm hlt
  by_cases hl2:j < b.length
  ·have d1:decide (((b.map eI).length:Int)≤(j:Int))=false:=decide_eq_false (by omega)
   have hdb:=List.drop_eq_getElem_cons hl2
   have hatb:(b.map eI)[((j:Nat):Int).toNat]?=some (eI b[j]):=fm hl2
   have hcc:=Ac one a[j] b[j]
   rw [hda,hdb,oR] at hcm
   by_cases h0:eJ a[j] b[j]=0
   ·have d2:(!decide (eJ a[j] b[j]=0))=false:=by simpa using h0
    rw [if_pos h0] at hcm
    repeat' (first |refine u1 ?_ |fail)
    exact ⟨j+1,⟨⟨hlt,hl2⟩,hcm⟩,(by dsimp only;omega),ai.to 0 rfl ⟨rfl,rfl,rfl,rfl,cG (by simp),trivial⟩ (Nat.zero_le _) rfl rfl⟩
   ·have d2:(!decide (eJ a[j] b[j]=0))=true:=by simpa using h0
    rw [if_neg h0] at hcm
    rw [hcm]
    repeat' (first |refine u1 ?_ |fail)
    exact ⟨[_],⟨Fz.deep rfl,trivial⟩,rfl⟩
  ·have d1:decide (((b.map eI).length:Int)≤(j:Int))=true:=decide_eq_true (by omega)
   rw [hda,List.drop_eq_nil_of_le (by omega:b.length≤j),kW] at hcm
   rw [hcm]
   repeat' (first |refine u1 ?_ |fail)
   exact ⟨[_],⟨Fz.deep rfl,trivial⟩,rfl⟩
 ·have hjl:j=a.length:=by rw [ea,decide_eq_false_iff_not] at hc;omega
  subst hjl
  rw [List.drop_length] at hcm
  by_cases hl2:a.length < b.length
  ·have d1:decide (((a.map eI).length:Int) < ((b.map eI).length:Int))=true:=decide_eq_true (by omega)
   rw [List.drop_eq_getElem_cons hl2,oS] at hcm
   rw [hcm]
   repeat' (first |refine u1 ?_ |fail)
   exact ⟨[_],⟨Fz.deep rfl,trivial⟩,rfl⟩
  ·have d1:decide (((a.map eI).length:Int) < ((b.map eI).length:Int))=false:=decide_eq_false (by omega)
   rw [List.drop_eq_nil_of_le (by omega:b.length≤a.length),qZ] at hcm
   rw [hcm]
   repeat' (first |refine u1 ?_ |fail)
   exact ⟨[_],⟨Fz.deep rfl,trivial⟩,rfl⟩
theorem Fs (one:Bool) (a b:Int):Pu one 134 [.sl [eI a,eI b] true] (ah (if a ≠ 0 then a else b)):=by
 refine af.body (fn:=Tryz.f134) rfl rfl rfl rfl ?_
 refine aa (mu:=fun _=>false) ?_
 repeat' (first |refine u1 ?_ |fail)
 refine av.aY (ai.to (l:=[(3,ah 0),(6,.sl [eI a,eI b] true),(7,ah 2),(8,ah (0:Nat))]) (hp:=[]) 0 rfl ⟨rfl,rfl,rfl,rfl,trivial⟩ (Nat.zero_le _) rfl rfl) ?_
 refine av.loop (fun j:Nat=>j≤2∧(1≤j→a=0)∧(2≤j→b=0)) (fun j=>⟨aP [(3,ah 0),(6,.sl [eI a,eI b] true),(7,ah 2),(8,ah (j:Nat))],[],bq.none,false,0⟩) (fun j=>2 - j) ?_ 0 ⟨by decide,fun h=>absurd h (by decide),fun h=>absurd h (by decide)⟩
 rintro j ⟨hj,h1,h2⟩
 refine aa (mu:=fun _=>false) ?_
 match j,hj with
 | 0,_ =>
  have hat:[eI a,eI b][((0:Nat):Int).toNat]?=some (eI a):=rfl
  by_cases h0:a=0
  ·have d:(!decide (a=0))=false:=by rw [decide_eq_true h0];rfl
   repeat' (first |refine u1 ?_ |fail)
   exact ⟨1,⟨by decide,fun _=>h0,fun h=>absurd h (by decide)⟩,(by decide),ai.to 0 rfl ⟨rfl,rfl,rfl,rfl,trivial⟩ (Nat.zero_le _) rfl rfl⟩
  ·have d:(!decide (a=0))=true:=by rw [decide_eq_false h0];rfl
   rw [if_pos h0]
   repeat' (first |refine u1 ?_ |fail)
   exact ⟨[_],⟨Fz.deep rfl,trivial⟩,rfl⟩
 | 1,_ =>
  have hat:[eI a,eI b][((1:Nat):Int).toNat]?=some (eI b):=rfl
  rw [if_neg (fun h=>h (h1 (by decide)))]
  by_cases h0:b=0
  ·have d:(!decide (b=0))=false:=by rw [decide_eq_true h0];rfl
   repeat' (first |refine u1 ?_ |fail)
   exact ⟨2,⟨by decide,fun _=>h1 (by decide),fun _=>h0⟩,(by decide),ai.to 0 rfl ⟨rfl,rfl,rfl,rfl,trivial⟩ (Nat.zero_le _) rfl rfl⟩
  ·have d:(!decide (b=0))=true:=by rw [decide_eq_false h0];rfl
   repeat' (first |refine u1 ?_ |fail)
   exact ⟨[_],⟨Fz.deep rfl,trivial⟩,rfl⟩
 | 2,_ =>
  rw [if_neg (fun h=>h (h1 (by decide)))]
  repeat' (first |refine u1 ?_ |fail)
  exact ⟨[_],⟨Fz.deep rfl,trivial⟩,by rw [h2 (by decide)];rfl⟩
abbrev lS:=List (Int × Int)
def oW (k:Int) (E:lS):Option Nat:=E.findIdx? fun x=>decide (k=x.1)
def jR (k:Int) (E:lS):Int:=match oW k E with
 | some i=>match E[i]? with|some x=>x.2|none=>0
 | none=>0
def qT (k:Int) (E:lS):lS:=match oW k E with
 | some i=>E.set i (k,jR k E+1)
 | none=>E++[(k,jR k E+1)]
def dm:Nat→lS→List (AV × AV × Nat)
 | _,[]=>[]
 | b,(k,c) :: E=>(ah k,ah c,b) :: dm (b+1) E
theorem lT:∀ (b:Nat) (E:lS) (i:Nat) (x:Int × Int),E[i]?=some x→(dm b E)[i]?=some (ah x.1,ah x.2,b+i)
 | _,[],i,x,h=>by cases h
 | b,(k,c) :: E,0,x,h=>by cases h;rfl
 | b,(k,c) :: E,i+1,x,h=>by
  unfold dm
  rw [List.getElem?_cons_succ] at h ⊢
  rw [lT (b+1) E i x h,show b+1+i=b+(i+1) by omega]
theorem yq:∀ (b:Nat) (E:lS) (i:Nat) (k:Int) (c:Int),(dm b E).set i (ah k,ah c,b+i)=dm b (E.set i (k,c))
 | _,[],i,k,c=>rfl
 | b,(k',c') :: E,0,k,c=>rfl
 | b,(k',c') :: E,i+1,k,c=>by
  show (ah k',ah c',b) :: (dm (b+1) E).set i _=(ah k',ah c',b) :: dm (b+1) (E.set i (k,c))
  rw [←yq (b+1) E i k c,show b+1+i=b+(i+1) by omega]
theorem yu:∀ (b:Nat) (E:lS) (k:Int) (c:Int),dm b E++[(ah k,ah c,b+E.length)]=dm b (E++[(k,c)])
 | _,[],k,c=>rfl
 | b,(k',c') :: E,k,c=>by
  show (ah k',ah c',b) :: (dm (b+1) E++_)=(ah k',ah c',b) :: dm (b+1) (E++[(k,c)])
  rw [←yu (b+1) E k c,List.length_cons,show b+1+E.length=b+(E.length+1) by omega]
theorem qj:∀ (b:Nat) (E:lS),lO (dm b E)=some ((E.map (·.1)).map vI)
 | _,[]=>rfl
 | b,(k,c) :: E=>by
  unfold dm lO
  rw [show (ah k).eY=some (vI k) from rfl,qj (b+1) E]
  rfl
theorem yw (b:Bool) (k:Int) (E:lS):xO TT b 3 (vI k) ((E.map (·.1)).map vI) (oW k E):=by
 have:=CF b k (E.map (·.1))
 rw [List.findIdx?_map] at this
 exact this
theorem lU {key:Int} {E:lS} {i:Nat} (h:oW key E=some i):∃ x,E[i]?=some x∧x.1=key:=by
 unfold oW at h
 rw [List.findIdx?_eq_some_iff_getElem] at h
 obtain ⟨hi,h1,_⟩:=h
 exact ⟨E[i],List.getElem?_eq_getElem hi,(of_decide_eq_true h1).symm⟩
section
variable {own : Bool} {fr : Nat → AV} {hp : List AB} {K : AV → List AB → Prop} {m k v : Operand} {j : Nat} {key : Int} {E : lS}
theorem Ap (hm:aB fr m=.om j) (hk:aB fr k=ah key) (hj:hp[j]?=some (.map (dm 0 E) E.length)) (hK:K (ah (jR key E)) hp) :
  RM.wpOp TT own (.lookup 188 m k false) fr hp K:=by
 show oJ TT 188 (aB fr m) (aB fr k) false hp K
 rw [hm,hk]
 refine ⟨_,_,_,vI key,3,vI 0,oW key E,hj,qj 0 E,rfl,by kernel_rfl,yw _ key E,?_⟩
 cases h:oW key E with
 | none =>
  refine ⟨rfl,?_⟩
  unfold jR at hK
  rw [h] at hK
  exact hK
 | some i =>
  obtain ⟨x,hx,_⟩:=lU h
  refine ⟨_,lT 0 E i x hx,?_⟩
  unfold jR at hK
  simp only [h,hx] at hK
  exact hK
theorem CH {n:Int} (hm:aB fr m=.om j) (hk:aB fr k=ah key) (hv:aB fr v=ah n) (hj:hp[j]?=some (.map (dm 0 E) E.length)) (hn:n=jR key E+1) (hK:K .bk (hp.set j (.map (dm 0 (qT key E)) (qT key E).length))) :
  RM.wpOp TT own (.mapUpdate 188 m k v) fr hp K:=by
 show force (aB fr v) fun v=>jC TT 188 (aB fr m) (aB fr k) v hp K
 rw [hm,hk,hv]
 refine ⟨_,_,_,vI key,3,some (vI 0),oW key E,hj,qj 0 E,rfl,by kernel_rfl,yw _ key E,?_⟩
 unfold qT at hK
 cases h:oW key E with
 | none =>
  simp only [h] at hK
  rw [←yu 0 E key _,Nat.zero_add,List.length_append,←hn] at hK
  exact hK
 | some i =>
  obtain ⟨x,hx,hxk⟩:=lU h
  have hg:=lT 0 E i x hx
  simp only [h] at hK
  rw [←yq 0 E i key _,List.length_set,←hn] at hK
  refine ⟨_,hg,⟨vI x.1,rfl,by rw [hxk];exact CG key⟩,hK⟩
end
theorem yx {k:Int} {E:lS} {x:Int × Int} (hx:x ∈ qT k E):x ∈ E∨x.1=k∧x.2=jR k E+1:=by
 unfold qT at hx
 split at hx
 ·rcases List.mem_or_eq_of_mem_set hx with h|rfl
  ·exact .inl h
  ·exact .inr ⟨rfl,rfl⟩
 ·rcases List.mem_append.1 hx with h|h
  ·exact .inl h
  ·rw [List.mem_singleton.1 h];exact .inr ⟨rfl,rfl⟩
theorem yy (k:Int) (E:lS):∃ x ∈ qT k E,x.1=k:=by
 unfold qT
 split
 ·rename_i i h
  obtain ⟨x,hx,_⟩:=lU h
  exact ⟨_,List.mem_set (List.getElem?_eq_some_iff.1 hx).1 _,rfl⟩
 ·exact ⟨_,List.mem_append_right _ List.mem_cons_self,rfl⟩
theorem zB {k:Int} {E:lS} {x:Int × Int} (hx:x ∈ E):∃ y ∈ qT k E,y.1=x.1:=by
 by_cases hk:x.1=k
 ·rw [hk];exact yy k E
 ·unfold qT
  split
  ·rename_i i h
   obtain ⟨y,hy,hyk⟩:=lU h
   obtain ⟨j,hj⟩:=List.getElem?_of_mem hx
   have hne:i ≠ j:=fun e=>by
    rw [e,hj] at hy
    cases hy
    exact hk hyk
   exact ⟨x,List.mem_of_getElem? (by rw [List.getElem?_set_ne hne];exact hj),rfl⟩
  ·exact ⟨x,List.mem_append_left _ hx,rfl⟩
def wC (E:lS) (n:Nat):Prop:=∀ x ∈ E,0≤x.2∧x.2≤n
theorem nH {E:lS} {n:Nat} (h:wC E n) (k:Int):0≤jR k E∧jR k E≤n:=by
 unfold jR
 split
 ·rename_i i h'
  obtain ⟨x,hx,_⟩:=lU h'
  rw [hx]
  exact h x (List.mem_of_getElem? hx)
 ·omega
theorem CI {E:lS} {n:Nat} (h:wC E n) (k:Int):wC (qT k E) (n+1):=by
 intro x hx
 rcases yx hx with h1|⟨_,h1⟩
 ·have:=h x h1;omega
 ·have:=nH h k;omega
end Go.Proofs.YtichbhmnhkegiaaGreat
