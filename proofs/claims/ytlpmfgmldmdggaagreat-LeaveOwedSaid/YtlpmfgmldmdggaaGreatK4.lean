/-
  Contracts of the program's functions and of the document's. Lemmas alone; their conditions stand in them.
-/
import Derived.Test.YtlpmfgmldmdggaaGreatA4
import Derived.Test.YtlpmfgmldmdggaaGreatK3
open Go Go.RM
namespace Go.Proofs.YtlpmfgmldmdggaaGreat
set_option maxRecDepth 100000
structure Ev where
 day:Int
 kind:Int
 qT:Int
 other:Int
structure Acc where
 place:Int
 fm:Int
 d0:Int
 d1:Int
 d2:Int
abbrev cZ (x:Ev):List AV:=[ah x.day,ah x.kind,ah x.qT,ah x.other]
abbrev bu (a:Acc):List AV:=[ah a.place,ah a.fm,ah a.d0,ah a.d1,ah a.d2]
def bg (ls:List Acc):List AV:=(ls.map bu).flatten
structure Good (c:ay):Prop where
 aA:1≤c.aA.length∧c.aA.length≤3
 aG:1≤c.aG.length∧c.aG.length≤5
 least:0≤c.least∧c.least≤5
 iN:∀ r ∈ c.aA,(0≤r.Gt∧r.Gt≤1000)∧(0≤r.leave∧r.leave≤1000)∧(0≤r.Gu∧r.Gu≤1000)∧(0≤r.nx∧r.nx≤1000)
 qT:∀ m ∈ c.aG,(0≤m.iN∧m.iN < c.aA.length)∧(-100000≤m.fm∧m.fm≤100000)
theorem uw {n:Nat} {e:Nat→Int} (h:(cL n e).2=0):∀ i,i < n→e i=0:=by
 intro i hi
 unfold cL at h
 cases hf:(List.range n).find? (fun i=>e i != 0) with
 | none =>
  rw [List.find?_eq_none] at hf
  have:=hf i (by simpa using hi)
  simpa using this
 | some k =>
  rw [hf] at h
  have h1:(e k != 0)=true:=by have:=List.find?_some hf;exact this
  have h2:e k=0:=h
  rw [h2] at h1
  cases h1
theorem Ap {c:ay} (h:(nS c).2.2=0):Good c:=by
 unfold nS at h
 split at h
 ·cases h
 ·rename_i h1
  split at h
  ·cases h
  ·rename_i h2
   simp only [Bool.or_eq_true,not_or,Bool.not_eq_true] at h1 h2
   have a1:=cC h1.1
   have a2:=cC h1.2
   have a3:=cC h2
   split at h
   ·rename_i h3;exact absurd h h3
   ·rename_i h3
    split at h
    ·rename_i h4;exact absurd h h4
    ·rename_i h4
     have z1:=uw (Decidable.not_not.1 h3)
     have z2:=uw (Decidable.not_not.1 h4)
     refine ⟨by omega,by omega,a3,fun r hr=>?_,fun m hm=>?_⟩
     ·obtain ⟨i,hi,rfl⟩:=List.getElem_of_mem hr
      have:=z1 i hi
      unfold GF dh at this
      rw [List.getElem?_eq_getElem hi] at this
      simp only at this
      split at this
      ·cases this
      ·split at this
       ·cases this
       ·unfold dP at this
        split at this
        ·cases this
        ·rename_i hh
         rw [bD,Jb] at hh
         simp only [Bool.or_eq_true,not_or,Bool.not_eq_true,Bool.not_eq_false'] at hh
         exact ⟨cM.1 hh.1,cM.1 hh.2.1,cM.1 hh.2.2.1,cM.1 hh.2.2.2⟩
     ·obtain ⟨i,hi,rfl⟩:=List.getElem_of_mem hm
      have:=z2 i hi
      unfold D4 dh at this
      rw [List.getElem?_eq_getElem hi] at this
      simp only at this
      split at this
      ·cases this
      ·split at this
       ·cases this
       ·unfold fE at this
        split at this
        ·cases this
        ·rename_i hh
         split at this
         ·cases this
         ·rename_i hh2
          have q1:=cC (Bool.not_eq_true _ ▸ hh)
          have q2:=cC (Bool.not_eq_true _ ▸ hh2)
          omega
theorem jh (a:Acc) (ls:List Acc):bg (a :: ls)=bu a++bg ls:=rfl
theorem gx (ls:List Acc):(bg ls).length=ls.length * 5:=by
 induction ls with
 | nil=>rfl
 | cons a ls ih=>rw [jh,List.length_append,ih,List.length_cons];simp only [List.length_cons,List.length_nil];omega
theorem w8 (ls:List Acc):de (bg ls)=true:=by
 induction ls with
 | nil=>rfl
 | cons a ls ih=>exact ih
theorem Fb (n:Nat) (ls:List Acc):sq n (bg ls)=true:=by
 induction ls with
 | nil=>rfl
 | cons a ls ih=>exact ih
theorem qL (ls:List Acc) (a:Acc):bg (ls++[a])=bg ls++bu a:=by
 unfold bg
 rw [List.map_append,List.flatten_append]
 simp
theorem nB:∀ (ls:List Acc) (i:Nat),(bg ls).drop (i * 5)=bg (ls.drop i)
 | ls,0=>by simp
 | [],i+1=>by simp [bg]
 | a :: ls,i+1=>by
  rw [jh,List.drop_succ_cons,show (i+1) * 5=5+i * 5 by omega,←List.drop_drop]
  exact nB ls i
theorem yY {ls:List Acc} {i:Nat} {a:Acc} (h:ls[i]?=some a):((bg ls).drop (i * 5)).take 5=bu a:=by
 obtain ⟨hi,rfl⟩:=List.getElem?_eq_some_iff.1 h
 rw [nB,List.drop_eq_getElem_cons hi,jh]
 rfl
theorem GI {ls:List Acc} {i j:Nat} {a:Acc} (h:ls[i]?=some a) (hj:j < 5):(bg ls)[i * 5+j]?=(bu a)[j]?:=by
 rw [←List.getElem?_drop,←yY h,List.getElem?_take_of_lt hj]
theorem w9:∀ (ls:List Acc) (i:Nat),(bg ls).take (i * 5)=bg (ls.take i)
 | ls,0=>by simp [bg]
 | [],i+1=>by simp [bg]
 | a :: ls,i+1=>by
  rw [jh,List.take_succ_cons,jh,show (i+1) * 5=5+i * 5 by omega]
  show (bu a++bg ls).take ((bu a).length+i * 5)=_
  rw [List.take_length_add_append,w9 ls i]
theorem yZ {ls:List Acc} {i:Nat} {a:Acc} (h:i < ls.length):cX (bg ls) (bu a) (i * 5)=bg (ls.set i a):=by
 unfold cX
 show (bg ls).take (i * 5)++bu a++(bg ls).drop (i * 5+5)=_
 rw [show i * 5+5=(i+1) * 5 by omega,w9,nB,List.set_eq_take_append_cons_drop,if_pos h]
 unfold bg
 simp [List.append_assoc]
theorem B1 {ls:List Acc} {i:Nat} {a:Acc} {p:Int} (h:ls[i]?=some a):cX (bg ls) [ah p] (i * 5)=bg (ls.set i {a with place:=p}):=by
 obtain ⟨hi,ha⟩:=List.getElem?_eq_some_iff.1 h
 rw [←yZ hi]
 unfold cX
 have e:(bg ls).drop (i * 5)=bu a++bg (ls.drop (i+1)):=by
  rw [nB,List.drop_eq_getElem_cons hi,jh,ha]
 have e1:(bg ls).drop (i * 5+1)=[ah a.fm,ah a.d0,ah a.d1,ah a.d2]++bg (ls.drop (i+1)):=by
  rw [←List.drop_drop,e];rfl
 have e5:(bg ls).drop (i * 5+5)=bg (ls.drop (i+1)):=by
  rw [←List.drop_drop,e];rfl
 show (bg ls).take (i * 5)++[ah p]++(bg ls).drop (i * 5+1)=(bg ls).take (i * 5)++bu {a with place:=p}++(bg ls).drop (i * 5+5)
 rw [e1,e5]
 simp [List.append_assoc]
section
variable {T : bh} {own : Bool} {fr : Nat → AV} {hp : List AB} {K : AV → List AB → Prop} {t : TypeId}
theorem ux {a:Operand} {j ax o es i:Nat} {iP bytes z bO cy} {ls:List Acc} {x:Acc} (ha:aS fr a=.ptr j ax o) (ht:T.ty.get t=some ⟨iP,5,bytes,z,true,bO,cy⟩) (hj:hp[j]?=some (.cells (bg ls) es ax)) (hx:ls[i]?=some x) (ho:o=i * 5) {e:List AV} (he:bu x=e) (h:K (.ag e) hp):RM.wpOp T own (.load t a) fr hp K:=by
 subst ho he
 refine RM.LB ha ht hj ?_ ?_
 ·have hi:=(List.getElem?_eq_some_iff.1 hx).1
  rw [gx]
  exact Nat.ble_eq_true_of_le (by omega)
 ·rw [yY hx]
  exact h
theorem Dg {a:Operand} {j ax o es i q:Nat} {iP s bytes z bO cy} {ls:List Acc} {x:Acc} {v:AV} (ha:aS fr a=.ptr j ax o) (ht:T.ty.get t=some ⟨iP,s,bytes,z,false,bO,cy⟩) (hj:hp[j]?=some (.cells (bg ls) es ax)) (hx:ls[i]?=some x) (ho:o=i * 5+q) (hq:q < 5) (hv:(bu x)[q]?=some v) (h:K v hp):RM.wpOp T own (.load t a) fr hp K:=by
 subst ho
 exact RM.Km ha ht hj (by rw [GI hx hq];exact hv) h
theorem y6 {a v:AV} {j ax o es i:Nat} {iP bytes z agg bO cy} {ls:List Acc} {y:Acc} (ha:a=.ptr j ax o) (ht:T.ty.get t=some ⟨iP,5,bytes,z,agg,bO,cy⟩) (hj:hp[j]?=some (.cells (bg ls) es ax)) (hi:i < ls.length) (ho:o=i * 5) (hv:v=.ag (bu y)) (h:K .bL (hp.set j (.cells (bg (ls.set i y)) es ax))):dN T t a v hp K:=by
 subst ho hv
 refine RM.uT ha ht hj rfl rfl rfl ?_ ?_
 ·rw [gx]
  exact Nat.ble_eq_true_of_le (by omega)
 ·show K .bL (hp.set j (.cells (cX (bg ls) (bu y) (i * 5)) es ax))
  rw [yZ hi]
  exact h
theorem D8 {a v:AV} {j ax o es i:Nat} {iP bytes z agg bO cy} {ls:List Acc} {x:Acc} {p:Int} (ha:a=.ptr j ax o) (ht:T.ty.get t=some ⟨iP,1,bytes,z,agg,bO,cy⟩) (hj:hp[j]?=some (.cells (bg ls) es ax)) (hx:ls[i]?=some x) (ho:o=i * 5) (hv:v=ah p) (h:K .bL (hp.set j (.cells (bg (ls.set i {x with place:=p})) es ax))):dN T t a v hp K:=by
 subst ho hv
 have hi:=(List.getElem?_eq_some_iff.1 hx).1
 refine RM.uT ha ht hj rfl rfl rfl ?_ ?_
 ·rw [gx]
  exact Nat.ble_eq_true_of_le (by omega)
 ·show K .bL (hp.set j (.cells (cX (bg ls) [ah p] (i * 5)) es ax))
  rw [B1 hx]
  exact h
end
def mJ (nx dd:Int) (a:Acc):Acc :=
 if a.place=0 then {a with fm:=a.fm+dd * nx,d0:=a.d0+dd}
 else if a.place=1 then {a with fm:=a.fm - dd * 1000,d1:=a.d1+dd}
 else {a with d2:=a.d2+dd}
def tC (c:ay) (i:Nat):Option fL:=(c.aG[i]?).bind fun m=>c.aA[m.iN.toNat]?
def eD (c:ay) (i:Nat):Int:=((tC c i).map fL.nx).getD 0
def iu (c:ay) (dd:Int) (k:Nat) (ls:List Acc):List Acc:=ls.mapIdx fun i a=>if i < k then mJ (eD c i) dd a else a
def iS (c:ay) (dd:Int) (ls:List Acc):List Acc:=ls.mapIdx fun i a=>mJ (eD c i) dd a
theorem xe (c:ay) (dd:Int) (ls:List Acc):iu c dd 0 ls=ls:=by
 unfold iu
 apply List.ext_getElem?
 intro i
 rw [List.getElem?_mapIdx]
 cases ls[i]? <;> simp
theorem tD (c:ay) (dd:Int) (k:Nat) (ls:List Acc):(iu c dd k ls).length=ls.length:=by unfold iu;simp
theorem y7 (c:ay) (dd:Int) (ls:List Acc):iu c dd ls.length ls=iS c dd ls:=by
 unfold iu iS
 apply List.ext_getElem?
 intro i
 rw [List.getElem?_mapIdx,List.getElem?_mapIdx]
 by_cases h:i < ls.length
 ·rw [List.getElem?_eq_getElem h];simp [h]
 ·rw [List.getElem?_eq_none (by omega)];rfl
theorem B2 {c:ay} {dd:Int} {k:Nat} {ls:List Acc} {a:Acc} (h:ls[k]?=some a):(iu c dd k ls)[k]?=some a:=by
 unfold iu
 rw [List.getElem?_mapIdx,h]
 simp
theorem xg {c:ay} {dd:Int} {k:Nat} {ls:List Acc} {a:Acc} (h:ls[k]?=some a):(iu c dd k ls).set k (mJ (eD c k) dd a)=iu c dd (k+1) ls:=by
 have hk:=(List.getElem?_eq_some_iff.1 h).1
 apply List.ext_getElem?
 intro i
 by_cases hik:i=k
 ·subst hik
  rw [List.getElem?_set_self (by rw [tD];exact hk)]
  unfold iu
  rw [List.getElem?_mapIdx,h]
  simp
 ·rw [List.getElem?_set_ne (Ne.symm hik)]
  unfold iu
  rw [List.getElem?_mapIdx,List.getElem?_mapIdx]
  cases ls[i]? with
  | none=>rfl
  | some b =>
   simp only [Option.map_some]
   have:i < k+1 ↔ i < k:=by omega
   simp only [this]
structure cF (day:Int) (a:Acc):Prop where
 place:a.place=0∨a.place=1∨a.place=2
 fm:-(100000+1000 * day)≤a.fm∧a.fm≤100000+1000 * day
 d0:0≤a.d0∧a.d0≤day
 d1:0≤a.d1∧a.d1≤day
 d2:0≤a.d2∧a.d2≤day
structure Inv (c:ay) (day:Int) (ls:List Acc):Prop where
 len:ls.length=c.aG.length
 ok:∀ a ∈ ls,cF day a
 day:0≤day∧day≤40000
theorem JJ {c:ay} (hg:Good c) (i:Nat):0≤eD c i∧eD c i≤1000:=by
 unfold eD
 cases h:tC c i with
 | none=>exact ⟨by decide,by decide⟩
 | some r =>
  unfold tC at h
  cases hm:c.aG[i]? with
  | none=>rw [hm] at h;cases h
  | some m =>
   rw [hm] at h
   have hr:c.aA[m.iN.toNat]?=some r:=h
   exact (hg.iN r (List.mem_of_getElem? hr)).2.2.2
theorem B3 {dd e:Int} (h0:0≤dd) (he:0≤e∧e≤1000):0≤dd * e∧dd * e≤1000 * dd:=by
 constructor
 ·exact Int.mul_nonneg h0 he.1
 ·calc dd * e≤dd * 1000:=Int.mul_le_mul_of_nonneg_left he.2 h0
  _=1000 * dd:=Int.mul_comm _ _
theorem GJ {day dd e:Int} {a:Acc} (ha:cF day a) (h0:0≤dd) (he:0≤e∧e≤1000):cF (day+dd) (mJ e dd a):=by
 obtain ⟨h1,h2,h3,h4,h5⟩:=ha
 have hm:=B3 h0 he
 unfold mJ
 split
 ·exact ⟨h1,by dsimp only;omega,by dsimp only;omega,by dsimp only;omega,by dsimp only;omega⟩
 ·split
  ·exact ⟨h1,by dsimp only;omega,by dsimp only;omega,by dsimp only;omega,by dsimp only;omega⟩
  ·exact ⟨h1,by dsimp only;omega,by dsimp only;omega,by dsimp only;omega,by dsimp only;omega⟩
theorem B4 {c:ay} (hg:Good c) {day day':Int} {ls:List Acc} (h:Inv c day ls) (h1:day≤day') (h2:day'≤40000):Inv c day' (iS c (day' - day) ls):=by
 refine ⟨by unfold iS;simpa using h.len,fun a ha=>?_,by have:=h.day;omega⟩
 unfold iS at ha
 obtain ⟨i,hi,rfl⟩:=List.getElem_of_mem ha
 rw [List.getElem_mapIdx]
 have:=GJ (h.ok _ (List.getElem_mem (by simpa using hi))) (show 0≤day' - day by omega) (JJ hg i)
 rw [show day+(day' - day)=day' by omega] at this
 exact this
end Go.Proofs.YtlpmfgmldmdggaaGreat
open Go Go.RM
namespace Go.Proofs.YtlpmfgmldmdggaaGreat
set_option maxRecDepth 100000
set_option maxHeartbeats 4000000
abbrev JO (c:ay) (day:Int) (v n cc:Nat):List AV:=aF c++[ah day,.cS 1 v 0 n cc]
abbrev eA (c:ay) (day:Int) (v n cc:Nat):AB:=.cells (JO c day v n cc) 0 0
abbrev fo (ls:List Acc) (v:Nat):AB:=.cells (bg ls) 5 v
theorem dB (c:ay) (day:Int) (v n cc j:Nat) (hj:1 < j):AB.ig j (eA c day v n cc)=true:=by
 show (Nat.blt 1 j && true)=true
 rw [Bool.and_true]
 exact Nat.ble_eq_true_of_le hj
theorem cg (ls:List Acc) (v j:Nat):AB.ig j (fo ls v)=true:=Fb j ls
theorem Ip (one:Bool) {c:ay} (hg:Good c) {day day':Int} {ls:List Acc} (hi:Inv c day ls) (h1:day≤day') (h2:day'≤40000) (v n cc:Nat) (hn:ls.length=n) {av:bw} :
  ai TT TB one (.fn 107 [] []) [.ptr 0 0 0,ah day'] [eA c day v n cc,fo ls v] av fun a hp' amb'=>a=.tp []∧hp'=[eA c day' v n cc,fo (iS c (day' - day) ls) v]∧amb'=av:=by
 obtain ⟨dd,hdd⟩:∃ dd,dd=day' - day:=⟨_,rfl⟩
 have hd:=hi.day
 have hn5:n≤5:=by rw [←hn,hi.len];exact hg.aG.2
 rw [←hdd]
 have hddr:day' - day=dd:=hdd.symm
 refine ai.body (fn:=Tryz.f107) rfl rfl rfl ?_
 refine aa (mu:=fun _=>false) ?_
 repeat' (first |refine u1 ?_ |refine u2 ?_ |fail)
 rw [hddr]
 refine aC.bx (aj.to (l:=[(0,.ptr 0 0 0),(4,ah dd),(20,.cS 1 v 0 n cc),(21,ah (n:Int)),(22,ah (0:Nat))]) (hp:=[eA c day' v n cc,fo (iu c dd 0 ls) v]) 2 (by rw [xe];rfl) ⟨rfl,rfl,rfl,rfl,rfl,trivial⟩ (Nat.le_refl _) rfl (by simp only [List.all_cons,List.all_nil,Bool.and_true,Bool.and_eq_true];exact ⟨dB _ _ _ _ _ _ (by decide),cg _ _ _⟩)) ?_
 refine aC.loop (fun k:Nat=>k≤n) (fun k=>⟨bM [(0,.ptr 0 0 0),(4,ah dd),(20,.cS 1 v 0 n cc),(21,ah (n:Int)),(22,ah (k:Nat))],[eA c day' v n cc,fo (iu c dd k ls) v],av,false,2⟩) (fun k=>n - k) ?_ 0 (Nat.zero_le _)
 intro k hk
 by_cases hlt:k < n
 ·have d1:decide ((k:Int) < (n:Int))=true:=decide_eq_true (by omega)
  have hkl:k < ls.length:=by omega
  have hak:ls[k]?=some ls[k]:=List.getElem?_eq_getElem hkl
  have hok:=hi.ok _ (List.getElem_mem hkl)
  have hkm:k < c.aG.length:=by rw [←hi.len];exact hkl
  have hmat:(c.aG.map bp)[((k:Nat):Int).toNat]?=some (bp c.aG[k]):=bG hkm
  have hmb:=hg.qT _ (List.getElem_mem hkm)
  obtain ⟨q,hq⟩:∃ q:Nat,c.aG[k].iN=(q:Int):=⟨c.aG[k].iN.toNat,by omega⟩
  have hqr:q < c.aA.length:=by omega
  have hrat:(c.aA.map bA)[(((q:Nat):Int)).toNat]?=some (bA c.aA[q]):=bG hqr
  rw [←hq] at hrat
  have hrb:=(hg.iN _ (List.getElem_mem hqr)).2.2.2
  have he:eD c k=c.aA[q].nx:=by
   unfold eD tC
   rw [List.getElem?_eq_getElem hkm]
   simp only [Option.bind_some,hq,Int.toNat_natCast,List.getElem?_eq_getElem hqr,Option.map_some,Option.getD_some]
  have hat:=B2 (c:=c) (dd:=dd) hak
  have hset:=xg (c:=c) (dd:=dd) hak
  have htl:k < (iu c dd k ls).length:=by rw [tD];exact hkl
  rw [he] at hset
  have hmu:=B3 (show 0≤dd by omega) hrb
  generalize c.aG[k]=m at *
  generalize c.aA[q]=r at *
  generalize iu c dd k ls=lk at *
  generalize ls[k]=a at *
  obtain ⟨p,ow,d0,d1',d2⟩:=a
  obtain ⟨op,oo,o0,o1,o2⟩:=hok
  dsimp only at op oo o0 o1 o2
  rcases op with rfl|rfl|rfl
  ·unfold mJ at hset
   rw [if_pos rfl] at hset
   dsimp only at hset
   refine aa (mu:=fun _=>false) ?_
   repeat' (first |(refine ux (e:=[ah 0,ah ow,ah d0,ah d1',ah d2]) rfl rfl rfl hat (by simp) rfl ?_) |(refine y6 (y:=⟨0,ow+dd * r.nx,d0+dd,d1',d2⟩) rfl rfl rfl htl (by simp) rfl ?_) |refine u1 ?_ |((with_reducible show RM.wpOp _ _ (.indexAddr _ _ _) _ _ _);refine ⟨bp m,⟨by omega,hmat⟩,rfl,?_⟩) |((with_reducible show RM.wpOp _ _ (.indexAddr _ _ _) _ _ _);refine ⟨bA r,⟨by omega,hrat⟩,rfl,?_⟩) |refine u2 ?_ |fail)
   refine ⟨k+1,hlt,(by dsimp only;omega),aj.to 2 (by rw [←hset];rfl) ⟨rfl,rfl,rfl,rfl,cK (by simp),trivial⟩ (Nat.le_refl _) rfl (by simp only [List.all_cons,List.all_nil,Bool.and_true,Bool.and_eq_true];exact ⟨dB _ _ _ _ _ _ (by decide),cg _ _ _⟩)⟩
  ·unfold mJ at hset
   rw [if_neg (by simp),if_pos rfl] at hset
   dsimp only at hset
   refine aa (mu:=fun _=>false) ?_
   repeat' (first |refine u1 ?_ |(refine ux (e:=[ah 1,ah ow,ah d0,ah d1',ah d2]) rfl rfl rfl hat (by simp) rfl ?_) |(refine y6 (y:=⟨1,ow - dd * 1000,d0,d1'+dd,d2⟩) rfl rfl rfl htl (by simp) rfl ?_) |refine u2 ?_ |fail)
   refine ⟨k+1,hlt,(by dsimp only;omega),aj.to 2 (by rw [←hset];rfl) ⟨rfl,rfl,rfl,rfl,cK (by simp),trivial⟩ (Nat.le_refl _) rfl (by simp only [List.all_cons,List.all_nil,Bool.and_true,Bool.and_eq_true];exact ⟨dB _ _ _ _ _ _ (by decide),cg _ _ _⟩)⟩
  ·unfold mJ at hset
   rw [if_neg (by simp),if_neg (by simp)] at hset
   dsimp only at hset
   refine aa (mu:=fun _=>false) ?_
   repeat' (first |refine u1 ?_ |(refine ux (e:=[ah 2,ah ow,ah d0,ah d1',ah d2]) rfl rfl rfl hat (by simp) rfl ?_) |(refine y6 (y:=⟨2,ow,d0,d1',d2+dd⟩) rfl rfl rfl htl (by simp) rfl ?_) |refine u2 ?_ |fail)
   refine ⟨k+1,hlt,(by dsimp only;omega),aj.to 2 (by rw [←hset];rfl) ⟨rfl,rfl,rfl,rfl,cK (by simp),trivial⟩ (Nat.le_refl _) rfl (by simp only [List.all_cons,List.all_nil,Bool.and_true,Bool.and_eq_true];exact ⟨dB _ _ _ _ _ _ (by decide),cg _ _ _⟩)⟩
 ·have d1:decide ((k:Int) < (n:Int))=false:=decide_eq_false (by omega)
  have hkn:k=ls.length:=by omega
  rw [hkn,y7]
  rw [hkn] at d1
  refine aa (mu:=fun _=>false) ?_
  repeat' (first |refine u1 ?_ |refine u2 ?_ |fail)
  exact rfl
theorem Eb (one:Bool) {c:ay} (hg:Good c) {day day':Int} {ls:List Acc} (hi:Inv c day ls) (h1:day≤day') (h2:day'≤40000) (v n cc:Nat) (hn:ls.length=n) {av:bw} (xa xb:AB) (hxa:AB.ig 4 xa=true) (hxb:AB.ig 4 xb=true) :
  ai TT TB one (.fn 107 [] []) [.ptr 0 0 0,ah day'] [eA c day v n cc,fo ls v,xa,xb] av fun a hp' amb'=>a=.tp []∧hp'=[eA c day' v n cc,fo (iS c (day' - day) ls) v,xa,xb]∧amb'=av:=by
 obtain ⟨dd,hdd⟩:∃ dd,dd=day' - day:=⟨_,rfl⟩
 have hd:=hi.day
 have hn5:n≤5:=by rw [←hn,hi.len];exact hg.aG.2
 rw [←hdd]
 have hddr:day' - day=dd:=hdd.symm
 refine ai.body (fn:=Tryz.f107) rfl rfl rfl ?_
 refine aa (mu:=fun _=>false) ?_
 repeat' (first |refine u1 ?_ |refine u2 ?_ |fail)
 rw [hddr]
 refine aC.bx (aj.to (l:=[(0,.ptr 0 0 0),(4,ah dd),(20,.cS 1 v 0 n cc),(21,ah (n:Int)),(22,ah (0:Nat))]) (hp:=[eA c day' v n cc,fo (iu c dd 0 ls) v,xa,xb]) 4 (by rw [xe];rfl) ⟨rfl,rfl,rfl,rfl,rfl,trivial⟩ (Nat.le_refl _) rfl (by simp only [List.all_cons,List.all_nil,Bool.and_true,Bool.and_eq_true];exact ⟨dB _ _ _ _ _ _ (by decide),cg _ _ _,hxa,hxb⟩)) ?_
 refine aC.loop (fun k:Nat=>k≤n) (fun k=>⟨bM [(0,.ptr 0 0 0),(4,ah dd),(20,.cS 1 v 0 n cc),(21,ah (n:Int)),(22,ah (k:Nat))],[eA c day' v n cc,fo (iu c dd k ls) v,xa,xb],av,false,4⟩) (fun k=>n - k) ?_ 0 (Nat.zero_le _)
 intro k hk
 by_cases hlt:k < n
 ·have d1:decide ((k:Int) < (n:Int))=true:=decide_eq_true (by omega)
  have hkl:k < ls.length:=by omega
  have hak:ls[k]?=some ls[k]:=List.getElem?_eq_getElem hkl
  have hok:=hi.ok _ (List.getElem_mem hkl)
  have hkm:k < c.aG.length:=by rw [←hi.len];exact hkl
  have hmat:(c.aG.map bp)[((k:Nat):Int).toNat]?=some (bp c.aG[k]):=bG hkm
  have hmb:=hg.qT _ (List.getElem_mem hkm)
  obtain ⟨q,hq⟩:∃ q:Nat,c.aG[k].iN=(q:Int):=⟨c.aG[k].iN.toNat,by omega⟩
  have hqr:q < c.aA.length:=by omega
  have hrat:(c.aA.map bA)[(((q:Nat):Int)).toNat]?=some (bA c.aA[q]):=bG hqr
  rw [←hq] at hrat
  have hrb:=(hg.iN _ (List.getElem_mem hqr)).2.2.2
  have he:eD c k=c.aA[q].nx:=by
   unfold eD tC
   rw [List.getElem?_eq_getElem hkm]
   simp only [Option.bind_some,hq,Int.toNat_natCast,List.getElem?_eq_getElem hqr,Option.map_some,Option.getD_some]
  have hat:=B2 (c:=c) (dd:=dd) hak
  have hset:=xg (c:=c) (dd:=dd) hak
  have htl:k < (iu c dd k ls).length:=by rw [tD];exact hkl
  rw [he] at hset
  have hmu:=B3 (show 0≤dd by omega) hrb
  generalize c.aG[k]=m at *
  generalize c.aA[q]=r at *
  generalize iu c dd k ls=lk at *
  generalize ls[k]=a at *
  obtain ⟨p,ow,d0,d1',d2⟩:=a
  obtain ⟨op,oo,o0,o1,o2⟩:=hok
  dsimp only at op oo o0 o1 o2
  rcases op with rfl|rfl|rfl
  ·unfold mJ at hset
   rw [if_pos rfl] at hset
   dsimp only at hset
   refine aa (mu:=fun _=>false) ?_
   repeat' (first |(refine ux (e:=[ah 0,ah ow,ah d0,ah d1',ah d2]) rfl rfl rfl hat (by simp) rfl ?_) |(refine y6 (y:=⟨0,ow+dd * r.nx,d0+dd,d1',d2⟩) rfl rfl rfl htl (by simp) rfl ?_) |refine u1 ?_ |((with_reducible show RM.wpOp _ _ (.indexAddr _ _ _) _ _ _);refine ⟨bp m,⟨by omega,hmat⟩,rfl,?_⟩) |((with_reducible show RM.wpOp _ _ (.indexAddr _ _ _) _ _ _);refine ⟨bA r,⟨by omega,hrat⟩,rfl,?_⟩) |refine u2 ?_ |fail)
   refine ⟨k+1,hlt,(by dsimp only;omega),aj.to 4 (by rw [←hset];rfl) ⟨rfl,rfl,rfl,rfl,cK (by simp),trivial⟩ (Nat.le_refl _) rfl (by simp only [List.all_cons,List.all_nil,Bool.and_true,Bool.and_eq_true];exact ⟨dB _ _ _ _ _ _ (by decide),cg _ _ _,hxa,hxb⟩)⟩
  ·unfold mJ at hset
   rw [if_neg (by simp),if_pos rfl] at hset
   dsimp only at hset
   refine aa (mu:=fun _=>false) ?_
   repeat' (first |refine u1 ?_ |(refine ux (e:=[ah 1,ah ow,ah d0,ah d1',ah d2]) rfl rfl rfl hat (by simp) rfl ?_) |(refine y6 (y:=⟨1,ow - dd * 1000,d0,d1'+dd,d2⟩) rfl rfl rfl htl (by simp) rfl ?_) |refine u2 ?_ |fail)
   refine ⟨k+1,hlt,(by dsimp only;omega),aj.to 4 (by rw [←hset];rfl) ⟨rfl,rfl,rfl,rfl,cK (by simp),trivial⟩ (Nat.le_refl _) rfl (by simp only [List.all_cons,List.all_nil,Bool.and_true,Bool.and_eq_true];exact ⟨dB _ _ _ _ _ _ (by decide),cg _ _ _,hxa,hxb⟩)⟩
  ·unfold mJ at hset
   rw [if_neg (by simp),if_neg (by simp)] at hset
   dsimp only at hset
   refine aa (mu:=fun _=>false) ?_
   repeat' (first |refine u1 ?_ |(refine ux (e:=[ah 2,ah ow,ah d0,ah d1',ah d2]) rfl rfl rfl hat (by simp) rfl ?_) |(refine y6 (y:=⟨2,ow,d0,d1',d2+dd⟩) rfl rfl rfl htl (by simp) rfl ?_) |refine u2 ?_ |fail)
   refine ⟨k+1,hlt,(by dsimp only;omega),aj.to 4 (by rw [←hset];rfl) ⟨rfl,rfl,rfl,rfl,cK (by simp),trivial⟩ (Nat.le_refl _) rfl (by simp only [List.all_cons,List.all_nil,Bool.and_true,Bool.and_eq_true];exact ⟨dB _ _ _ _ _ _ (by decide),cg _ _ _,hxa,hxb⟩)⟩
 ·have d1:decide ((k:Int) < (n:Int))=false:=decide_eq_false (by omega)
  have hkn:k=ls.length:=by omega
  rw [hkn,y7]
  rw [hkn] at d1
  refine aa (mu:=fun _=>false) ?_
  repeat' (first |refine u1 ?_ |refine u2 ?_ |fail)
  exact rfl
end Go.Proofs.YtlpmfgmldmdggaaGreat
open Go Go.RM
namespace Go.Proofs.YtlpmfgmldmdggaaGreat
set_option maxRecDepth 100000
set_option maxHeartbeats 4000000
theorem bI:uy TT TB:=by
 have h:Tr.DF (fun g (_:Func)=>TT.fn.get g=none∧TT.Cw.get g=none∧noEntry TB g=true) HJ id:=by
  unfold HJ
  repeat' (first |exact trivial |refine ⟨?_,?_,?_⟩ |fail)
  all_goals rfl
 exact fun g fn hg=>h.get g fn hg
abbrev ER (e:Int):AV:=.fl (.iface 27 (.int .i64 e))
theorem fZ (one:Bool) (n:Nat) (b:Bool) (e:Int) {hp:List AB} {av:bw}:di TT TB one (n+1) (.fn 121 [] []) [BB b,ah e] hp av fun y hp' amb'=>hp'=hp∧amb'=av∧((b=true∧y=.ret (.tp []))∨(b=false∧y=.eK (ER e))):=by
 refine di.body (fn:=Tryz.f121) rfl rfl ?_
 refine ak.seq ?_
 refine ak.ops bI (mu:=fun _=>false) ?_
 repeat' (first |refine u1 ?_ |refine u2 ?_ |fail)
 refine bz ?_
 cases b with
 | true =>
  refine ak.cond (t:=false) rfl (fun h=>Bool.noConfusion h) (fun _=>?_)
  exact ak.here (fun _ _ _=>rfl) ⟨rfl,rfl,.inl ⟨rfl,rfl⟩⟩
 | false =>
  refine ak.cond (t:=true) rfl (fun _=>?_) (fun h=>Bool.noConfusion h)
  refine ak.Gy (id1:=0) (id2:=0) (l1:=_ :: _ :: []) (l2:=[_]) rfl rfl ?_
  refine ak.seq ?_
  refine ak.ops bI (mu:=fun _=>false) ?_
  repeat' (first |refine u1 ?_ |refine u2 ?_ |fail)
  refine bz ?_
  exact ak.JN rfl ⟨rfl,rfl,.inr ⟨rfl,rfl⟩⟩
theorem dY {b:Bool} {e:Int} {r:AV} (h:(b=true∧xh.ret r=.ret (.tp []))∨(b=false∧xh.ret r=.eK (ER e))):b=true∧r=.tp []:=by
 rcases h with ⟨h1,h2⟩|⟨_,h2⟩
 ·cases h2;exact ⟨h1,rfl⟩
 ·cases h2
theorem dZ {b:Bool} {e:Int} {r:AV} (h:(b=true∧xh.eK r=.ret (.tp []))∨(b=false∧xh.eK r=.eK (ER e))):b=false∧r=ER e:=by
 rcases h with ⟨_,h2⟩|⟨h1,h2⟩
 ·cases h2
 ·cases h2;exact ⟨h1,rfl⟩
end Go.Proofs.YtlpmfgmldmdggaaGreat
