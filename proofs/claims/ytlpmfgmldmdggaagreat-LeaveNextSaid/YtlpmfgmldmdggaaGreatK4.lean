/-
  Contracts of the program's functions and of the document's. Lemmas alone; their conditions stand in them.
-/
import Derived.Test.YtlpmfgmldmdggaaGreatA4
import Derived.Test.YtlpmfgmldmdggaaGreatK3
open Go Go.RM
namespace Go.Proofs.YtlpmfgmldmdggaaGreat
set_option maxRecDepth 100000
structure Ev where
 day:Int
 kind:Int
 qp:Int
 other:Int
structure Acc where
 place:Int
 gI:Int
 d0:Int
 d1:Int
 d2:Int
abbrev cO (x:Ev):List AV:=[aj x.day,aj x.kind,aj x.qp,aj x.other]
abbrev iz (a:Acc):List AV:=[aj a.place,aj a.gI,aj a.d0,aj a.d1,aj a.d2]
def bl (ls:List Acc):List AV:=(ls.map iz).flatten
structure Good (c:ay):Prop where
 az:1≤c.az.length∧c.az.length≤3
 aO:1≤c.aO.length∧c.aO.length≤5
 least:0≤c.least∧c.least≤5
 lR:∀ r ∈ c.az,(0≤r.Fc∧r.Fc≤1000)∧(0≤r.leave∧r.leave≤1000)∧(0≤r.Fe∧r.Fe≤1000)∧(0≤r.m9∧r.m9≤1000)
 qp:∀ m ∈ c.aO,(0≤m.lR∧m.lR < c.az.length)∧(-100000≤m.gI∧m.gI≤100000)
theorem tD {n:Nat} {e:Nat→Int} (h:(cG n e).2=0):∀ i,i < n→e i=0:=by
 intro i hi
 unfold cG at h
 cases hf:(List.range n).find? (fun i=>e i != 0) with
 | none =>
  rw [List.find?_eq_none] at hf
  have:=hf i (by simpa using hi)
  simpa using this
 | some k =>
  rw [hf] at h
  have h1:(e k != 0)=true:=by have:=List.find?_some hf;exact this
  have h2:e k=0:=h
  rw [h2] at h1
  cases h1
theorem zw {c:ay} (h:(oA c).2.2=0):Good c:=by
 unfold oA at h
 split at h
 ·cases h
 ·rename_i h1
  split at h
  ·cases h
  ·rename_i h2
   simp only [Bool.or_eq_true,not_or,Bool.not_eq_true] at h1 h2
   have a1:=cI h1.1
   have a2:=cI h1.2
   have a3:=cI h2
   split at h
   ·rename_i h3;exact absurd h h3
   ·rename_i h3
    split at h
    ·rename_i h4;exact absurd h h4
    ·rename_i h4
     have z1:=tD (Decidable.not_not.1 h3)
     have z2:=tD (Decidable.not_not.1 h4)
     refine ⟨by omega,by omega,a3,fun r hr=>?_,fun m hm=>?_⟩
     ·obtain ⟨i,hi,rfl⟩:=List.getElem_of_mem hr
      have:=z1 i hi
      unfold Fm cW at this
      rw [List.getElem?_eq_getElem hi] at this
      simp only at this
      split at this
      ·cases this
      ·split at this
       ·cases this
       ·unfold dG at this
        split at this
        ·cases this
        ·rename_i hh
         rw [bp,Hv] at hh
         simp only [Bool.or_eq_true,not_or,Bool.not_eq_true,Bool.not_eq_false'] at hh
         exact ⟨bL.1 hh.1,bL.1 hh.2.1,bL.1 hh.2.2.1,bL.1 hh.2.2.2⟩
     ·obtain ⟨i,hi,rfl⟩:=List.getElem_of_mem hm
      have:=z2 i hi
      unfold CZ cW at this
      rw [List.getElem?_eq_getElem hi] at this
      simp only at this
      split at this
      ·cases this
      ·split at this
       ·cases this
       ·unfold fh at this
        split at this
        ·cases this
        ·rename_i hh
         split at this
         ·cases this
         ·rename_i hh2
          have q1:=cI (Bool.not_eq_true _ ▸ hh)
          have q2:=cI (Bool.not_eq_true _ ▸ hh2)
          omega
theorem i7 (a:Acc) (ls:List Acc):bl (a :: ls)=iz a++bl ls:=rfl
theorem ku (ls:List Acc):(bl ls).length=ls.length * 5:=by
 induction ls with
 | nil=>rfl
 | cons a ls ih=>rw [i7,List.length_append,ih,List.length_cons];simp only [List.length_cons,List.length_nil];omega
theorem Ck (ls:List Acc):dJ (bl ls)=true:=by
 induction ls with
 | nil=>rfl
 | cons a ls ih=>exact ih
theorem DV (n:Nat) (ls:List Acc):tX n (bl ls)=true:=by
 induction ls with
 | nil=>rfl
 | cons a ls ih=>exact ih
theorem vZ (ls:List Acc) (a:Acc):bl (ls++[a])=bl ls++iz a:=by
 unfold bl
 rw [List.map_append,List.flatten_append]
 simp
theorem nh:∀ (ls:List Acc) (i:Nat),(bl ls).drop (i * 5)=bl (ls.drop i)
 | ls,0=>by simp
 | [],i+1=>by simp [bl]
 | a :: ls,i+1=>by
  rw [i7,List.drop_succ_cons,show (i+1) * 5=5+i * 5 by omega,←List.drop_drop]
  exact nh ls i
theorem xZ {ls:List Acc} {i:Nat} {a:Acc} (h:ls[i]?=some a):((bl ls).drop (i * 5)).take 5=iz a:=by
 obtain ⟨hi,rfl⟩:=List.getElem?_eq_some_iff.1 h
 rw [nh,List.drop_eq_getElem_cons hi,i7]
 rfl
theorem Ft {ls:List Acc} {i j:Nat} {a:Acc} (h:ls[i]?=some a) (hj:j < 5):(bl ls)[i * 5+j]?=(iz a)[j]?:=by
 rw [←List.getElem?_drop,←xZ h,List.getElem?_take_of_lt hj]
theorem v5:∀ (ls:List Acc) (i:Nat),(bl ls).take (i * 5)=bl (ls.take i)
 | ls,0=>by simp [bl]
 | [],i+1=>by simp [bl]
 | a :: ls,i+1=>by
  rw [i7,List.take_succ_cons,i7,show (i+1) * 5=5+i * 5 by omega]
  show (iz a++bl ls).take ((iz a).length+i * 5)=_
  rw [List.take_length_add_append,v5 ls i]
theorem x6 {ls:List Acc} {i:Nat} {a:Acc} (h:i < ls.length):ey (bl ls) (iz a) (i * 5)=bl (ls.set i a):=by
 unfold ey
 show (bl ls).take (i * 5)++iz a++(bl ls).drop (i * 5+5)=_
 rw [show i * 5+5=(i+1) * 5 by omega,v5,nh,List.set_eq_take_append_cons_drop,if_pos h]
 unfold bl
 simp [List.append_assoc]
theorem A7 {ls:List Acc} {i:Nat} {a:Acc} {p:Int} (h:ls[i]?=some a):ey (bl ls) [aj p] (i * 5)=bl (ls.set i {a with place:=p}):=by
 obtain ⟨hi,ha⟩:=List.getElem?_eq_some_iff.1 h
 rw [←x6 hi]
 unfold ey
 have e:(bl ls).drop (i * 5)=iz a++bl (ls.drop (i+1)):=by
  rw [nh,List.drop_eq_getElem_cons hi,i7,ha]
 have e1:(bl ls).drop (i * 5+1)=[aj a.gI,aj a.d0,aj a.d1,aj a.d2]++bl (ls.drop (i+1)):=by
  rw [←List.drop_drop,e];rfl
 have e5:(bl ls).drop (i * 5+5)=bl (ls.drop (i+1)):=by
  rw [←List.drop_drop,e];rfl
 show (bl ls).take (i * 5)++[aj p]++(bl ls).drop (i * 5+1)=(bl ls).take (i * 5)++iz {a with place:=p}++(bl ls).drop (i * 5+5)
 rw [e1,e5]
 simp [List.append_assoc]
section
variable {T : bf} {own : Bool} {fr : Nat → AV} {hp : List AB} {K : AV → List AB → Prop} {t : TypeId}
theorem tE {a:Operand} {j av o es i:Nat} {iG bytes z bI cv} {ls:List Acc} {x:Acc} (ha:aQ fr a=.ptr j av o) (ht:T.ty.get t=some ⟨iG,5,bytes,z,true,bI,cv⟩) (hj:hp[j]?=some (.cells (bl ls) es av)) (hx:ls[i]?=some x) (ho:o=i * 5) {e:List AV} (he:iz x=e) (h:K (.ag e) hp):RM.wpOp T own (.load t a) fr hp K:=by
 subst ho he
 refine RM.JS ha ht hj ?_ ?_
 ·have hi:=(List.getElem?_eq_some_iff.1 hx).1
  rw [ku]
  exact Nat.ble_eq_true_of_le (by omega)
 ·rw [xZ hx]
  exact h
theorem Cm {a:Operand} {j av o es i q:Nat} {iG s bytes z bI cv} {ls:List Acc} {x:Acc} {v:AV} (ha:aQ fr a=.ptr j av o) (ht:T.ty.get t=some ⟨iG,s,bytes,z,false,bI,cv⟩) (hj:hp[j]?=some (.cells (bl ls) es av)) (hx:ls[i]?=some x) (ho:o=i * 5+q) (hq:q < 5) (hv:(iz x)[q]?=some v) (h:K v hp):RM.wpOp T own (.load t a) fr hp K:=by
 subst ho
 exact RM.JT ha ht hj (by rw [Ft hx hq];exact hv) h
theorem x7 {a v:AV} {j av o es i:Nat} {iG bytes z agg bI cv} {ls:List Acc} {y:Acc} (ha:a=.ptr j av o) (ht:T.ty.get t=some ⟨iG,5,bytes,z,agg,bI,cv⟩) (hj:hp[j]?=some (.cells (bl ls) es av)) (hi:i < ls.length) (ho:o=i * 5) (hv:v=.ag (iz y)) (h:K .bE (hp.set j (.cells (bl (ls.set i y)) es av))):dZ T t a v hp K:=by
 subst ho hv
 refine RM.vP ha ht hj rfl rfl rfl ?_ ?_
 ·rw [ku]
  exact Nat.ble_eq_true_of_le (by omega)
 ·show K .bE (hp.set j (.cells (ey (bl ls) (iz y) (i * 5)) es av))
  rw [x6 hi]
  exact h
theorem C3 {a v:AV} {j av o es i:Nat} {iG bytes z agg bI cv} {ls:List Acc} {x:Acc} {p:Int} (ha:a=.ptr j av o) (ht:T.ty.get t=some ⟨iG,1,bytes,z,agg,bI,cv⟩) (hj:hp[j]?=some (.cells (bl ls) es av)) (hx:ls[i]?=some x) (ho:o=i * 5) (hv:v=aj p) (h:K .bE (hp.set j (.cells (bl (ls.set i {x with place:=p})) es av))):dZ T t a v hp K:=by
 subst ho hv
 have hi:=(List.getElem?_eq_some_iff.1 hx).1
 refine RM.vP ha ht hj rfl rfl rfl ?_ ?_
 ·rw [ku]
  exact Nat.ble_eq_true_of_le (by omega)
 ·show K .bE (hp.set j (.cells (ey (bl ls) [aj p] (i * 5)) es av))
  rw [A7 hx]
  exact h
end
def mq (m9 dd:Int) (a:Acc):Acc :=
 if a.place=0 then {a with gI:=a.gI+dd * m9,d0:=a.d0+dd}
 else if a.place=1 then {a with gI:=a.gI - dd * 1000,d1:=a.d1+dd}
 else {a with d2:=a.d2+dd}
def sJ (c:ay) (i:Nat):Option fA:=(c.aO[i]?).bind fun m=>c.az[m.lR.toNat]?
def eo (c:ay) (i:Nat):Int:=((sJ c i).map fA.m9).getD 0
def gZ (c:ay) (dd:Int) (k:Nat) (ls:List Acc):List Acc:=ls.mapIdx fun i a=>if i < k then mq (eo c i) dd a else a
def iI (c:ay) (dd:Int) (ls:List Acc):List Acc:=ls.mapIdx fun i a=>mq (eo c i) dd a
theorem v7 (c:ay) (dd:Int) (ls:List Acc):gZ c dd 0 ls=ls:=by
 unfold gZ
 apply List.ext_getElem?
 intro i
 rw [List.getElem?_mapIdx]
 cases ls[i]? <;> simp
theorem sK (c:ay) (dd:Int) (k:Nat) (ls:List Acc):(gZ c dd k ls).length=ls.length:=by unfold gZ;simp
theorem x8 (c:ay) (dd:Int) (ls:List Acc):gZ c dd ls.length ls=iI c dd ls:=by
 unfold gZ iI
 apply List.ext_getElem?
 intro i
 rw [List.getElem?_mapIdx,List.getElem?_mapIdx]
 by_cases h:i < ls.length
 ·rw [List.getElem?_eq_getElem h];simp [h]
 ·rw [List.getElem?_eq_none (by omega)];rfl
theorem A8 {c:ay} {dd:Int} {k:Nat} {ls:List Acc} {a:Acc} (h:ls[k]?=some a):(gZ c dd k ls)[k]?=some a:=by
 unfold gZ
 rw [List.getElem?_mapIdx,h]
 simp
theorem v8 {c:ay} {dd:Int} {k:Nat} {ls:List Acc} {a:Acc} (h:ls[k]?=some a):(gZ c dd k ls).set k (mq (eo c k) dd a)=gZ c dd (k+1) ls:=by
 have hk:=(List.getElem?_eq_some_iff.1 h).1
 apply List.ext_getElem?
 intro i
 by_cases hik:i=k
 ·subst hik
  rw [List.getElem?_set_self (by rw [sK];exact hk)]
  unfold gZ
  rw [List.getElem?_mapIdx,h]
  simp
 ·rw [List.getElem?_set_ne (Ne.symm hik)]
  unfold gZ
  rw [List.getElem?_mapIdx,List.getElem?_mapIdx]
  cases ls[i]? with
  | none=>rfl
  | some b =>
   simp only [Option.map_some]
   have:i < k+1 ↔ i < k:=by omega
   simp only [this]
structure cB (day:Int) (a:Acc):Prop where
 place:a.place=0∨a.place=1∨a.place=2
 gI:-(100000+1000 * day)≤a.gI∧a.gI≤100000+1000 * day
 d0:0≤a.d0∧a.d0≤day
 d1:0≤a.d1∧a.d1≤day
 d2:0≤a.d2∧a.d2≤day
structure Inv (c:ay) (day:Int) (ls:List Acc):Prop where
 len:ls.length=c.aO.length
 ok:∀ a ∈ ls,cB day a
 day:0≤day∧day≤40000
theorem H8 {c:ay} (hg:Good c) (i:Nat):0≤eo c i∧eo c i≤1000:=by
 unfold eo
 cases h:sJ c i with
 | none=>exact ⟨by decide,by decide⟩
 | some r =>
  unfold sJ at h
  cases hm:c.aO[i]? with
  | none=>rw [hm] at h;cases h
  | some m =>
   rw [hm] at h
   have hr:c.az[m.lR.toNat]?=some r:=h
   exact (hg.lR r (List.mem_of_getElem? hr)).2.2.2
theorem A9 {dd e:Int} (h0:0≤dd) (he:0≤e∧e≤1000):0≤dd * e∧dd * e≤1000 * dd:=by
 constructor
 ·exact Int.mul_nonneg h0 he.1
 ·calc dd * e≤dd * 1000:=Int.mul_le_mul_of_nonneg_left he.2 h0
  _=1000 * dd:=Int.mul_comm _ _
theorem Fu {day dd e:Int} {a:Acc} (ha:cB day a) (h0:0≤dd) (he:0≤e∧e≤1000):cB (day+dd) (mq e dd a):=by
 obtain ⟨h1,h2,h3,h4,h5⟩:=ha
 have hm:=A9 h0 he
 unfold mq
 split
 ·exact ⟨h1,by dsimp only;omega,by dsimp only;omega,by dsimp only;omega,by dsimp only;omega⟩
 ·split
  ·exact ⟨h1,by dsimp only;omega,by dsimp only;omega,by dsimp only;omega,by dsimp only;omega⟩
  ·exact ⟨h1,by dsimp only;omega,by dsimp only;omega,by dsimp only;omega,by dsimp only;omega⟩
theorem Ba {c:ay} (hg:Good c) {day day':Int} {ls:List Acc} (h:Inv c day ls) (h1:day≤day') (h2:day'≤40000):Inv c day' (iI c (day' - day) ls):=by
 refine ⟨by unfold iI;simpa using h.len,fun a ha=>?_,by have:=h.day;omega⟩
 unfold iI at ha
 obtain ⟨i,hi,rfl⟩:=List.getElem_of_mem ha
 rw [List.getElem_mapIdx]
 have:=Fu (h.ok _ (List.getElem_mem (by simpa using hi))) (show 0≤day' - day by omega) (H8 hg i)
 rw [show day+(day' - day)=day' by omega] at this
 exact this
end Go.Proofs.YtlpmfgmldmdggaaGreat
open Go Go.RM
namespace Go.Proofs.YtlpmfgmldmdggaaGreat
set_option maxRecDepth 100000
set_option maxHeartbeats 4000000
abbrev Ie (c:ay) (day:Int) (v n cc:Nat):List AV:=aX c++[aj day,.dY 1 v 0 n cc]
abbrev ee (c:ay) (day:Int) (v n cc:Nat):AB:=.cells (Ie c day v n cc) 0 0
abbrev gh (ls:List Acc) (v:Nat):AB:=.cells (bl ls) 5 v
theorem di (c:ay) (day:Int) (v n cc j:Nat) (hj:1 < j):AB.iE j (ee c day v n cc)=true:=by
 show (Nat.blt 1 j && true)=true
 rw [Bool.and_true]
 exact Nat.ble_eq_true_of_le hj
theorem ck (ls:List Acc) (v j:Nat):AB.iE j (gh ls v)=true:=DV j ls
theorem GP (one:Bool) {c:ay} (hg:Good c) {day day':Int} {ls:List Acc} (hi:Inv c day ls) (h1:day≤day') (h2:day'≤40000) (v n cc:Nat) (hn:ls.length=n) {au:bF} :
  ah TT TB one (.fn 107 [] []) [.ptr 0 0 0,aj day'] [ee c day v n cc,gh ls v] au fun a hp' amb'=>a=.tp []∧hp'=[ee c day' v n cc,gh (iI c (day' - day) ls) v]∧amb'=au:=by
 obtain ⟨dd,hdd⟩:∃ dd,dd=day' - day:=⟨_,rfl⟩
 have hd:=hi.day
 have hn5:n≤5:=by rw [←hn,hi.len];exact hg.aO.2
 rw [←hdd]
 have hddr:day' - day=dd:=hdd.symm
 refine ah.body (fn:=Tryz.f107) rfl rfl rfl ?_
 refine aa (mu:=fun _=>false) ?_
 repeat' (first |refine u1 ?_ |refine u2 ?_ |fail)
 rw [hddr]
 refine aL.cr (ai.to (l:=[(0,.ptr 0 0 0),(4,aj dd),(20,.dY 1 v 0 n cc),(21,aj (n:Int)),(22,aj (0:Nat))]) (hp:=[ee c day' v n cc,gh (gZ c dd 0 ls) v]) 2 (by rw [v7];rfl) ⟨rfl,rfl,rfl,rfl,rfl,trivial⟩ (Nat.le_refl _) rfl (by simp only [List.all_cons,List.all_nil,Bool.and_true,Bool.and_eq_true];exact ⟨di _ _ _ _ _ _ (by decide),ck _ _ _⟩)) ?_
 refine aL.loop (fun k:Nat=>k≤n) (fun k=>⟨cz [(0,.ptr 0 0 0),(4,aj dd),(20,.dY 1 v 0 n cc),(21,aj (n:Int)),(22,aj (k:Nat))],[ee c day' v n cc,gh (gZ c dd k ls) v],au,false,2⟩) (fun k=>n - k) ?_ 0 (Nat.zero_le _)
 intro k hk
 by_cases hlt:k < n
 ·have d1:decide ((k:Int) < (n:Int))=true:=decide_eq_true (by omega)
  have hkl:k < ls.length:=by omega
  have hak:ls[k]?=some ls[k]:=List.getElem?_eq_getElem hkl
  have hok:=hi.ok _ (List.getElem_mem hkl)
  have hkm:k < c.aO.length:=by rw [←hi.len];exact hkl
  have hmat:(c.aO.map bG)[((k:Nat):Int).toNat]?=some (bG c.aO[k]):=cM hkm
  have hmb:=hg.qp _ (List.getElem_mem hkm)
  obtain ⟨q,hq⟩:∃ q:Nat,c.aO[k].lR=(q:Int):=⟨c.aO[k].lR.toNat,by omega⟩
  have hqr:q < c.az.length:=by omega
  have hrat:(c.az.map bu)[(((q:Nat):Int)).toNat]?=some (bu c.az[q]):=cM hqr
  rw [←hq] at hrat
  have hrb:=(hg.lR _ (List.getElem_mem hqr)).2.2.2
  have he:eo c k=c.az[q].m9:=by
   unfold eo sJ
   rw [List.getElem?_eq_getElem hkm]
   simp only [Option.bind_some,hq,Int.toNat_natCast,List.getElem?_eq_getElem hqr,Option.map_some,Option.getD_some]
  have hat:=A8 (c:=c) (dd:=dd) hak
  have hset:=v8 (c:=c) (dd:=dd) hak
  have htl:k < (gZ c dd k ls).length:=by rw [sK];exact hkl
  rw [he] at hset
  have hmu:=A9 (show 0≤dd by omega) hrb
  generalize c.aO[k]=m at *
  generalize c.az[q]=r at *
  generalize gZ c dd k ls=lk at *
  generalize ls[k]=a at *
  obtain ⟨p,ow,d0,d1',d2⟩:=a
  obtain ⟨op,oo,o0,o1,o2⟩:=hok
  dsimp only at op oo o0 o1 o2
  rcases op with rfl|rfl|rfl
  ·unfold mq at hset
   rw [if_pos rfl] at hset
   dsimp only at hset
   refine aa (mu:=fun _=>false) ?_
   repeat' (first |(refine tE (e:=[aj 0,aj ow,aj d0,aj d1',aj d2]) rfl rfl rfl hat (by simp) rfl ?_) |(refine x7 (y:=⟨0,ow+dd * r.m9,d0+dd,d1',d2⟩) rfl rfl rfl htl (by simp) rfl ?_) |refine u1 ?_ |((with_reducible show RM.wpOp _ _ (.indexAddr _ _ _) _ _ _);refine ⟨bG m,⟨by omega,hmat⟩,rfl,?_⟩) |((with_reducible show RM.wpOp _ _ (.indexAddr _ _ _) _ _ _);refine ⟨bu r,⟨by omega,hrat⟩,rfl,?_⟩) |refine u2 ?_ |fail)
   refine ⟨k+1,hlt,(by dsimp only;omega),ai.to 2 (by rw [←hset];rfl) ⟨rfl,rfl,rfl,rfl,cZ (by simp),trivial⟩ (Nat.le_refl _) rfl (by simp only [List.all_cons,List.all_nil,Bool.and_true,Bool.and_eq_true];exact ⟨di _ _ _ _ _ _ (by decide),ck _ _ _⟩)⟩
  ·unfold mq at hset
   rw [if_neg (by simp),if_pos rfl] at hset
   dsimp only at hset
   refine aa (mu:=fun _=>false) ?_
   repeat' (first |refine u1 ?_ |(refine tE (e:=[aj 1,aj ow,aj d0,aj d1',aj d2]) rfl rfl rfl hat (by simp) rfl ?_) |(refine x7 (y:=⟨1,ow - dd * 1000,d0,d1'+dd,d2⟩) rfl rfl rfl htl (by simp) rfl ?_) |refine u2 ?_ |fail)
   refine ⟨k+1,hlt,(by dsimp only;omega),ai.to 2 (by rw [←hset];rfl) ⟨rfl,rfl,rfl,rfl,cZ (by simp),trivial⟩ (Nat.le_refl _) rfl (by simp only [List.all_cons,List.all_nil,Bool.and_true,Bool.and_eq_true];exact ⟨di _ _ _ _ _ _ (by decide),ck _ _ _⟩)⟩
  ·unfold mq at hset
   rw [if_neg (by simp),if_neg (by simp)] at hset
   dsimp only at hset
   refine aa (mu:=fun _=>false) ?_
   repeat' (first |refine u1 ?_ |(refine tE (e:=[aj 2,aj ow,aj d0,aj d1',aj d2]) rfl rfl rfl hat (by simp) rfl ?_) |(refine x7 (y:=⟨2,ow,d0,d1',d2+dd⟩) rfl rfl rfl htl (by simp) rfl ?_) |refine u2 ?_ |fail)
   refine ⟨k+1,hlt,(by dsimp only;omega),ai.to 2 (by rw [←hset];rfl) ⟨rfl,rfl,rfl,rfl,cZ (by simp),trivial⟩ (Nat.le_refl _) rfl (by simp only [List.all_cons,List.all_nil,Bool.and_true,Bool.and_eq_true];exact ⟨di _ _ _ _ _ _ (by decide),ck _ _ _⟩)⟩
 ·have d1:decide ((k:Int) < (n:Int))=false:=decide_eq_false (by omega)
  have hkn:k=ls.length:=by omega
  rw [hkn,x8]
  rw [hkn] at d1
  refine aa (mu:=fun _=>false) ?_
  repeat' (first |refine u1 ?_ |refine u2 ?_ |fail)
  exact rfl
theorem C6 (one:Bool) {c:ay} (hg:Good c) {day day':Int} {ls:List Acc} (hi:Inv c day ls) (h1:day≤day') (h2:day'≤40000) (v n cc:Nat) (hn:ls.length=n) {au:bF} (xa xb:AB) (hxa:AB.iE 4 xa=true) (hxb:AB.iE 4 xb=true) :
  ah TT TB one (.fn 107 [] []) [.ptr 0 0 0,aj day'] [ee c day v n cc,gh ls v,xa,xb] au fun a hp' amb'=>a=.tp []∧hp'=[ee c day' v n cc,gh (iI c (day' - day) ls) v,xa,xb]∧amb'=au:=by
 obtain ⟨dd,hdd⟩:∃ dd,dd=day' - day:=⟨_,rfl⟩
 have hd:=hi.day
 have hn5:n≤5:=by rw [←hn,hi.len];exact hg.aO.2
 rw [←hdd]
 have hddr:day' - day=dd:=hdd.symm
 refine ah.body (fn:=Tryz.f107) rfl rfl rfl ?_
 refine aa (mu:=fun _=>false) ?_
 repeat' (first |refine u1 ?_ |refine u2 ?_ |fail)
 rw [hddr]
 refine aL.cr (ai.to (l:=[(0,.ptr 0 0 0),(4,aj dd),(20,.dY 1 v 0 n cc),(21,aj (n:Int)),(22,aj (0:Nat))]) (hp:=[ee c day' v n cc,gh (gZ c dd 0 ls) v,xa,xb]) 4 (by rw [v7];rfl) ⟨rfl,rfl,rfl,rfl,rfl,trivial⟩ (Nat.le_refl _) rfl (by simp only [List.all_cons,List.all_nil,Bool.and_true,Bool.and_eq_true];exact ⟨di _ _ _ _ _ _ (by decide),ck _ _ _,hxa,hxb⟩)) ?_
 refine aL.loop (fun k:Nat=>k≤n) (fun k=>⟨cz [(0,.ptr 0 0 0),(4,aj dd),(20,.dY 1 v 0 n cc),(21,aj (n:Int)),(22,aj (k:Nat))],[ee c day' v n cc,gh (gZ c dd k ls) v,xa,xb],au,false,4⟩) (fun k=>n - k) ?_ 0 (Nat.zero_le _)
 intro k hk
 by_cases hlt:k < n
 ·have d1:decide ((k:Int) < (n:Int))=true:=decide_eq_true (by omega)
  have hkl:k < ls.length:=by omega
  have hak:ls[k]?=some ls[k]:=List.getElem?_eq_getElem hkl
  have hok:=hi.ok _ (List.getElem_mem hkl)
  have hkm:k < c.aO.length:=by rw [←hi.len];exact hkl
  have hmat:(c.aO.map bG)[((k:Nat):Int).toNat]?=some (bG c.aO[k]):=cM hkm
  have hmb:=hg.qp _ (List.getElem_mem hkm)
  obtain ⟨q,hq⟩:∃ q:Nat,c.aO[k].lR=(q:Int):=⟨c.aO[k].lR.toNat,by omega⟩
  have hqr:q < c.az.length:=by omega
  have hrat:(c.az.map bu)[(((q:Nat):Int)).toNat]?=some (bu c.az[q]):=cM hqr
  rw [←hq] at hrat
  have hrb:=(hg.lR _ (List.getElem_mem hqr)).2.2.2
  have he:eo c k=c.az[q].m9:=by
   unfold eo sJ
   rw [List.getElem?_eq_getElem hkm]
   simp only [Option.bind_some,hq,Int.toNat_natCast,List.getElem?_eq_getElem hqr,Option.map_some,Option.getD_some]
  have hat:=A8 (c:=c) (dd:=dd) hak
  have hset:=v8 (c:=c) (dd:=dd) hak
  have htl:k < (gZ c dd k ls).length:=by rw [sK];exact hkl
  rw [he] at hset
  have hmu:=A9 (show 0≤dd by omega) hrb
  generalize c.aO[k]=m at *
  generalize c.az[q]=r at *
  generalize gZ c dd k ls=lk at *
  generalize ls[k]=a at *
  obtain ⟨p,ow,d0,d1',d2⟩:=a
  obtain ⟨op,oo,o0,o1,o2⟩:=hok
  dsimp only at op oo o0 o1 o2
  rcases op with rfl|rfl|rfl
  ·unfold mq at hset
   rw [if_pos rfl] at hset
   dsimp only at hset
   refine aa (mu:=fun _=>false) ?_
   repeat' (first |(refine tE (e:=[aj 0,aj ow,aj d0,aj d1',aj d2]) rfl rfl rfl hat (by simp) rfl ?_) |(refine x7 (y:=⟨0,ow+dd * r.m9,d0+dd,d1',d2⟩) rfl rfl rfl htl (by simp) rfl ?_) |refine u1 ?_ |((with_reducible show RM.wpOp _ _ (.indexAddr _ _ _) _ _ _);refine ⟨bG m,⟨by omega,hmat⟩,rfl,?_⟩) |((with_reducible show RM.wpOp _ _ (.indexAddr _ _ _) _ _ _);refine ⟨bu r,⟨by omega,hrat⟩,rfl,?_⟩) |refine u2 ?_ |fail)
   refine ⟨k+1,hlt,(by dsimp only;omega),ai.to 4 (by rw [←hset];rfl) ⟨rfl,rfl,rfl,rfl,cZ (by simp),trivial⟩ (Nat.le_refl _) rfl (by simp only [List.all_cons,List.all_nil,Bool.and_true,Bool.and_eq_true];exact ⟨di _ _ _ _ _ _ (by decide),ck _ _ _,hxa,hxb⟩)⟩
  ·unfold mq at hset
   rw [if_neg (by simp),if_pos rfl] at hset
   dsimp only at hset
   refine aa (mu:=fun _=>false) ?_
   repeat' (first |refine u1 ?_ |(refine tE (e:=[aj 1,aj ow,aj d0,aj d1',aj d2]) rfl rfl rfl hat (by simp) rfl ?_) |(refine x7 (y:=⟨1,ow - dd * 1000,d0,d1'+dd,d2⟩) rfl rfl rfl htl (by simp) rfl ?_) |refine u2 ?_ |fail)
   refine ⟨k+1,hlt,(by dsimp only;omega),ai.to 4 (by rw [←hset];rfl) ⟨rfl,rfl,rfl,rfl,cZ (by simp),trivial⟩ (Nat.le_refl _) rfl (by simp only [List.all_cons,List.all_nil,Bool.and_true,Bool.and_eq_true];exact ⟨di _ _ _ _ _ _ (by decide),ck _ _ _,hxa,hxb⟩)⟩
  ·unfold mq at hset
   rw [if_neg (by simp),if_neg (by simp)] at hset
   dsimp only at hset
   refine aa (mu:=fun _=>false) ?_
   repeat' (first |refine u1 ?_ |(refine tE (e:=[aj 2,aj ow,aj d0,aj d1',aj d2]) rfl rfl rfl hat (by simp) rfl ?_) |(refine x7 (y:=⟨2,ow,d0,d1',d2+dd⟩) rfl rfl rfl htl (by simp) rfl ?_) |refine u2 ?_ |fail)
   refine ⟨k+1,hlt,(by dsimp only;omega),ai.to 4 (by rw [←hset];rfl) ⟨rfl,rfl,rfl,rfl,cZ (by simp),trivial⟩ (Nat.le_refl _) rfl (by simp only [List.all_cons,List.all_nil,Bool.and_true,Bool.and_eq_true];exact ⟨di _ _ _ _ _ _ (by decide),ck _ _ _,hxa,hxb⟩)⟩
 ·have d1:decide ((k:Int) < (n:Int))=false:=decide_eq_false (by omega)
  have hkn:k=ls.length:=by omega
  rw [hkn,x8]
  rw [hkn] at d1
  refine aa (mu:=fun _=>false) ?_
  repeat' (first |refine u1 ?_ |refine u2 ?_ |fail)
  exact rfl
end Go.Proofs.YtlpmfgmldmdggaaGreat
open Go Go.RM
namespace Go.Proofs.YtlpmfgmldmdggaaGreat
set_option maxRecDepth 100000
set_option maxHeartbeats 4000000
theorem bA:tF TT TB:=by
 have h:Tr.CF (fun g (_:Func)=>TT.fn.get g=none∧TT.Bv.get g=none∧noEntry TB g=true) Gc id:=by
  unfold Gc
  repeat' (first |exact trivial |refine ⟨?_,?_,?_⟩ |fail)
  all_goals rfl
 exact fun g fn hg=>h.get g fn hg
abbrev ER (e:Int):AV:=.fl (.iface 27 (.int .i64 e))
theorem fP (one:Bool) (n:Nat) (b:Bool) (e:Int) {hp:List AB} {au:bF}:cX TT TB one (n+1) (.fn 121 [] []) [BB b,aj e] hp au fun y hp' amb'=>hp'=hp∧amb'=au∧((b=true∧y=.ret (.tp []))∨(b=false∧y=.eD (ER e))):=by
 refine cX.body (fn:=Tryz.f121) rfl rfl ?_
 refine ak.seq ?_
 refine ak.ops bA (mu:=fun _=>false) ?_
 repeat' (first |refine u1 ?_ |refine u2 ?_ |fail)
 refine bq ?_
 cases b with
 | true =>
  refine ak.cond (t:=false) rfl (fun h=>Bool.noConfusion h) (fun _=>?_)
  exact ak.here (fun _ _ _=>rfl) ⟨rfl,rfl,.inl ⟨rfl,rfl⟩⟩
 | false =>
  refine ak.cond (t:=true) rfl (fun _=>?_) (fun h=>Bool.noConfusion h)
  refine ak.Fh (id1:=0) (id2:=0) (l1:=_ :: _ :: []) (l2:=[_]) rfl rfl ?_
  refine ak.seq ?_
  refine ak.ops bA (mu:=fun _=>false) ?_
  repeat' (first |refine u1 ?_ |refine u2 ?_ |fail)
  refine bq ?_
  exact ak.Ic rfl ⟨rfl,rfl,.inr ⟨rfl,rfl⟩⟩
theorem dP {b:Bool} {e:Int} {r:AV} (h:(b=true∧v9.ret r=.ret (.tp []))∨(b=false∧v9.ret r=.eD (ER e))):b=true∧r=.tp []:=by
 rcases h with ⟨h1,h2⟩|⟨_,h2⟩
 ·cases h2;exact ⟨h1,rfl⟩
 ·cases h2
theorem dQ {b:Bool} {e:Int} {r:AV} (h:(b=true∧v9.eD r=.ret (.tp []))∨(b=false∧v9.eD r=.eD (ER e))):b=false∧r=ER e:=by
 rcases h with ⟨_,h2⟩|⟨h1,h2⟩
 ·cases h2
 ·cases h2;exact ⟨h1,rfl⟩
end Go.Proofs.YtlpmfgmldmdggaaGreat
