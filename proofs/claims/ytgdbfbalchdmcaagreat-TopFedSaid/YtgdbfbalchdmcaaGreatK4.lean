/-
  Contracts of the program's functions and of the document's. Lemmas alone; their conditions stand in them.
-/
import Derived.Test.YtgdbfbalchdmcaaGreatA3
import Derived.Test.YtgdbfbalchdmcaaGreatK3
open Go Go.RM
namespace Go.Proofs.YtgdbfbalchdmcaaGreat
set_option maxRecDepth 100000
structure Ev where
 day:Int
 kind:Int
 aR:Int
 other:Int
structure Acc where
 place:Int
 i4:Int
 d0:Int
 d1:Int
 d2:Int
abbrev dZ (x:Ev):List AV:=[ak x.day,ak x.kind,ak x.aR,ak x.other]
abbrev jH (a:Acc):List AV:=[ak a.place,ak a.i4,ak a.d0,ak a.d1,ak a.d2]
def bX (ls:List Acc):List AV:=(ls.map jH).flatten
structure Good (c:aH):Prop where
 aI:1≤c.aI.length∧c.aI.length≤3
 ah:1≤c.ah.length∧c.ah.length≤5
 least:0≤c.least∧c.least≤5
 ny:∀ r ∈ c.aI,(0≤r.IZ∧r.IZ≤1000)∧(0≤r.leave∧r.leave≤1000)∧(0≤r.I2∧r.I2≤1000)∧(0≤r.oS∧r.oS≤1000)
 aR:∀ m ∈ c.ah,(0≤m.ny∧m.ny < c.aI.length)∧(-100000≤m.i4∧m.i4≤100000)
theorem fV {n:Nat} {e:Nat→Int} (h:(bq n e).2=0):∀ i,i < n→e i=0:=by
 intro i hi
 unfold bq at h
 cases hf:(List.range n).find? (fun i=>e i != 0) with
 | none =>
  rw [List.find?_eq_none] at hf
  have:=hf i (by simpa using hi)
  simpa using this
 | some k =>
  rw [hf] at h
  have h1:(e k != 0)=true:=by have:=List.find?_some hf;exact this
  have h2:e k=0:=h
  rw [h2] at h1
  cases h1
theorem BT {c:aH} (h:(iD c).2.2=0):Good c:=by
 unfold iD at h
 split at h
 ·cases h
 ·rename_i h1
  split at h
  ·cases h
  ·rename_i h2
   simp only [Bool.or_eq_true,not_or,Bool.not_eq_true] at h1 h2
   have a1:=dI h1.1
   have a2:=dI h1.2
   have a3:=dI h2
   split at h
   ·rename_i h3;exact absurd h h3
   ·rename_i h3
    split at h
    ·rename_i h4;exact absurd h h4
    ·rename_i h4
     have z1:=fV (Decidable.not_not.1 h3)
     have z2:=fV (Decidable.not_not.1 h4)
     refine ⟨by omega,by omega,a3,fun r hr=>?_,fun m hm=>?_⟩
     ·obtain ⟨i,hi,rfl⟩:=List.getElem_of_mem hr
      have:=z1 i hi
      unfold I8 dU at this
      rw [List.getElem?_eq_getElem hi] at this
      simp only at this
      split at this
      ·cases this
      ·split at this
       ·cases this
       ·unfold eE at this
        split at this
        ·cases this
        ·rename_i hh
         rw [bp,L5] at hh
         simp only [Bool.or_eq_true,not_or,Bool.not_eq_true,Bool.not_eq_false'] at hh
         exact ⟨bQ.1 hh.1,bQ.1 hh.2.1,bQ.1 hh.2.2.1,bQ.1 hh.2.2.2⟩
     ·obtain ⟨i,hi,rfl⟩:=List.getElem_of_mem hm
      have:=z2 i hi
      unfold F7 dU at this
      rw [List.getElem?_eq_getElem hi] at this
      simp only at this
      split at this
      ·cases this
      ·split at this
       ·cases this
       ·unfold gE at this
        split at this
        ·cases this
        ·rename_i hh
         split at this
         ·cases this
         ·rename_i hh2
          have q1:=dI (Bool.not_eq_true _ ▸ hh)
          have q2:=dI (Bool.not_eq_true _ ▸ hh2)
          omega
theorem j9 (a:Acc) (ls:List Acc):bX (a :: ls)=jH a++bX ls:=rfl
theorem l6 (ls:List Acc):(bX ls).length=ls.length * 5:=by
 induction ls with
 | nil=>rfl
 | cons a ls ih=>rw [j9,List.length_append,ih,List.length_cons];simp only [List.length_cons,List.length_nil];omega
theorem E8 (ls:List Acc):bU (bX ls)=true:=by
 induction ls with
 | nil=>rfl
 | cons a ls ih=>exact ih
theorem Hl (n:Nat) (ls:List Acc):lP n (bX ls)=true:=by
 induction ls with
 | nil=>rfl
 | cons a ls ih=>exact ih
theorem yA (ls:List Acc) (a:Acc):bX (ls++[a])=bX ls++jH a:=by
 unfold bX
 rw [List.map_append,List.flatten_append]
 simp
theorem oU:∀ (ls:List Acc) (i:Nat),(bX ls).drop (i * 5)=bX (ls.drop i)
 | ls,0=>by simp
 | [],i+1=>by simp [bX]
 | a :: ls,i+1=>by
  rw [j9,List.drop_succ_cons,show (i+1) * 5=5+i * 5 by omega,←List.drop_drop]
  exact oU ls i
theorem An {ls:List Acc} {i:Nat} {a:Acc} (h:ls[i]?=some a):((bX ls).drop (i * 5)).take 5=jH a:=by
 obtain ⟨hi,rfl⟩:=List.getElem?_eq_some_iff.1 h
 rw [oU,List.drop_eq_getElem_cons hi,j9]
 rfl
theorem Jb {ls:List Acc} {i j:Nat} {a:Acc} (h:ls[i]?=some a) (hj:j < 5):(bX ls)[i * 5+j]?=(jH a)[j]?:=by
 rw [←List.getElem?_drop,←An h,List.getElem?_take_of_lt hj]
theorem yB:∀ (ls:List Acc) (i:Nat),(bX ls).take (i * 5)=bX (ls.take i)
 | ls,0=>by simp [bX]
 | [],i+1=>by simp [bX]
 | a :: ls,i+1=>by
  rw [j9,List.take_succ_cons,j9,show (i+1) * 5=5+i * 5 by omega]
  show (jH a++bX ls).take ((jH a).length+i * 5)=_
  rw [List.take_length_add_append,yB ls i]
theorem Ao {ls:List Acc} {i:Nat} {a:Acc} (h:i < ls.length):dy (bX ls) (jH a) (i * 5)=bX (ls.set i a):=by
 unfold dy
 show (bX ls).take (i * 5)++jH a++(bX ls).drop (i * 5+5)=_
 rw [show i * 5+5=(i+1) * 5 by omega,yB,oU,List.set_eq_take_append_cons_drop,if_pos h]
 unfold bX
 simp [List.append_assoc]
theorem Dv {ls:List Acc} {i:Nat} {a:Acc} {p:Int} (h:ls[i]?=some a):dy (bX ls) [ak p] (i * 5)=bX (ls.set i {a with place:=p}):=by
 obtain ⟨hi,ha⟩:=List.getElem?_eq_some_iff.1 h
 rw [←Ao hi]
 unfold dy
 have e:(bX ls).drop (i * 5)=jH a++bX (ls.drop (i+1)):=by
  rw [oU,List.drop_eq_getElem_cons hi,j9,ha]
 have e1:(bX ls).drop (i * 5+1)=[ak a.i4,ak a.d0,ak a.d1,ak a.d2]++bX (ls.drop (i+1)):=by
  rw [←List.drop_drop,e];rfl
 have e5:(bX ls).drop (i * 5+5)=bX (ls.drop (i+1)):=by
  rw [←List.drop_drop,e];rfl
 show (bX ls).take (i * 5)++[ak p]++(bX ls).drop (i * 5+1)=(bX ls).take (i * 5)++jH {a with place:=p}++(bX ls).drop (i * 5+5)
 rw [e1,e5]
 simp [List.append_assoc]
section
variable {T : bM} {own : Bool} {fr : Nat → AV} {hp : List AB} {K : AV → List AB → Prop} {t : TypeId}
theorem vO {a:Operand} {j aB o es i:Nat} {jI bytes z cy dh} {ls:List Acc} {x:Acc} (ha:bw fr a=.ptr j aB o) (ht:T.ty.get t=some ⟨jI,5,bytes,z,true,cy,dh⟩) (hj:hp[j]?=some (.cells (bX ls) es aB)) (hx:ls[i]?=some x) (ho:o=i * 5) {e:List AV} (he:jH x=e) (h:K (.ag e) hp):RM.wpOp T own (.load t a) fr hp K:=by
 subst ho he
 refine RM.Pa ha ht hj ?_ ?_
 ·have hi:=(List.getElem?_eq_some_iff.1 hx).1
  rw [l6]
  exact Nat.ble_eq_true_of_le (by omega)
 ·rw [An hx]
  exact h
theorem E9 {a:Operand} {j aB o es i q:Nat} {jI s bytes z cy dh} {ls:List Acc} {x:Acc} {v:AV} (ha:bw fr a=.ptr j aB o) (ht:T.ty.get t=some ⟨jI,s,bytes,z,false,cy,dh⟩) (hj:hp[j]?=some (.cells (bX ls) es aB)) (hx:ls[i]?=some x) (ho:o=i * 5+q) (hq:q < 5) (hv:(jH x)[q]?=some v) (h:K v hp):RM.wpOp T own (.load t a) fr hp K:=by
 subst ho
 exact RM.Pb ha ht hj (by rw [Jb hx hq];exact hv) h
theorem Ap {a v:AV} {j aB o es i:Nat} {jI bytes z agg cy dh} {ls:List Acc} {y:Acc} (ha:a=.ptr j aB o) (ht:T.ty.get t=some ⟨jI,5,bytes,z,agg,cy,dh⟩) (hj:hp[j]?=some (.cells (bX ls) es aB)) (hi:i < ls.length) (ho:o=i * 5) (hv:v=.ag (jH y)) (h:K .cJ (hp.set j (.cells (bX (ls.set i y)) es aB))):eZ T t a v hp K:=by
 subst ho hv
 refine RM.yw ha ht hj rfl rfl rfl ?_ ?_
 ·rw [l6]
  exact Nat.ble_eq_true_of_le (by omega)
 ·show K .cJ (hp.set j (.cells (dy (bX ls) (jH y) (i * 5)) es aB))
  rw [Ao hi]
  exact h
theorem Ga {a v:AV} {j aB o es i:Nat} {jI bytes z agg cy dh} {ls:List Acc} {x:Acc} {p:Int} (ha:a=.ptr j aB o) (ht:T.ty.get t=some ⟨jI,1,bytes,z,agg,cy,dh⟩) (hj:hp[j]?=some (.cells (bX ls) es aB)) (hx:ls[i]?=some x) (ho:o=i * 5) (hv:v=ak p) (h:K .cJ (hp.set j (.cells (bX (ls.set i {x with place:=p})) es aB))):eZ T t a v hp K:=by
 subst ho hv
 have hi:=(List.getElem?_eq_some_iff.1 hx).1
 refine RM.yw ha ht hj rfl rfl rfl ?_ ?_
 ·rw [l6]
  exact Nat.ble_eq_true_of_le (by omega)
 ·show K .cJ (hp.set j (.cells (dy (bX ls) [ak p] (i * 5)) es aB))
  rw [Dv hx]
  exact h
end
def nV (oS dd:Int) (a:Acc):Acc :=
 if a.place=0 then {a with i4:=a.i4+dd * oS,d0:=a.d0+dd}
 else if a.place=1 then {a with i4:=a.i4 - dd * 1000,d1:=a.d1+dd}
 else {a with d2:=a.d2+dd}
def uV (c:aH) (i:Nat):Option gL:=(c.ah[i]?).bind fun m=>c.aI[m.ny.toNat]?
def fy (c:aH) (i:Nat):Int:=((uV c i).map gL.oS).getD 0
def jr (c:aH) (dd:Int) (k:Nat) (ls:List Acc):List Acc:=ls.mapIdx fun i a=>if i < k then nV (fy c i) dd a else a
def jK (c:aH) (dd:Int) (ls:List Acc):List Acc:=ls.mapIdx fun i a=>nV (fy c i) dd a
theorem yC (c:aH) (dd:Int) (ls:List Acc):jr c dd 0 ls=ls:=by
 unfold jr
 apply List.ext_getElem?
 intro i
 rw [List.getElem?_mapIdx]
 cases ls[i]? <;> simp
theorem uW (c:aH) (dd:Int) (k:Nat) (ls:List Acc):(jr c dd k ls).length=ls.length:=by unfold jr;simp
theorem Aq (c:aH) (dd:Int) (ls:List Acc):jr c dd ls.length ls=jK c dd ls:=by
 unfold jr jK
 apply List.ext_getElem?
 intro i
 rw [List.getElem?_mapIdx,List.getElem?_mapIdx]
 by_cases h:i < ls.length
 ·rw [List.getElem?_eq_getElem h];simp [h]
 ·rw [List.getElem?_eq_none (by omega)];rfl
theorem Dw {c:aH} {dd:Int} {k:Nat} {ls:List Acc} {a:Acc} (h:ls[k]?=some a):(jr c dd k ls)[k]?=some a:=by
 unfold jr
 rw [List.getElem?_mapIdx,h]
 simp
theorem yD {c:aH} {dd:Int} {k:Nat} {ls:List Acc} {a:Acc} (h:ls[k]?=some a):(jr c dd k ls).set k (nV (fy c k) dd a)=jr c dd (k+1) ls:=by
 have hk:=(List.getElem?_eq_some_iff.1 h).1
 apply List.ext_getElem?
 intro i
 by_cases hik:i=k
 ·subst hik
  rw [List.getElem?_set_self (by rw [uW];exact hk)]
  unfold jr
  rw [List.getElem?_mapIdx,h]
  simp
 ·rw [List.getElem?_set_ne (Ne.symm hik)]
  unfold jr
  rw [List.getElem?_mapIdx,List.getElem?_mapIdx]
  cases ls[i]? with
  | none=>rfl
  | some b =>
   simp only [Option.map_some]
   have:i < k+1 ↔ i < k:=by omega
   simp only [this]
structure fM (day:Int) (a:Acc):Prop where
 place:a.place=0∨a.place=1∨a.place=2
 i4:-(100000+1000 * day)≤a.i4∧a.i4≤100000+1000 * day
 d0:0≤a.d0∧a.d0≤day
 d1:0≤a.d1∧a.d1≤day
 d2:0≤a.d2∧a.d2≤day
structure Inv (c:aH) (day:Int) (ls:List Acc):Prop where
 len:ls.length=c.ah.length
 ok:∀ a ∈ ls,fM day a
 day:0≤day∧day≤40000
theorem ME {c:aH} (hg:Good c) (i:Nat):0≤fy c i∧fy c i≤1000:=by
 unfold fy
 cases h:uV c i with
 | none=>exact ⟨by decide,by decide⟩
 | some r =>
  unfold uV at h
  cases hm:c.ah[i]? with
  | none=>rw [hm] at h;cases h
  | some m =>
   rw [hm] at h
   have hr:c.aI[m.ny.toNat]?=some r:=h
   exact (hg.ny r (List.mem_of_getElem? hr)).2.2.2
theorem Dx {dd e:Int} (h0:0≤dd) (he:0≤e∧e≤1000):0≤dd * e∧dd * e≤1000 * dd:=by
 constructor
 ·exact Int.mul_nonneg h0 he.1
 ·calc dd * e≤dd * 1000:=Int.mul_le_mul_of_nonneg_left he.2 h0
  _=1000 * dd:=Int.mul_comm _ _
theorem Jc {day dd e:Int} {a:Acc} (ha:fM day a) (h0:0≤dd) (he:0≤e∧e≤1000):fM (day+dd) (nV e dd a):=by
 obtain ⟨h1,h2,h3,h4,h5⟩:=ha
 have hm:=Dx h0 he
 unfold nV
 split
 ·exact ⟨h1,by dsimp only;omega,by dsimp only;omega,by dsimp only;omega,by dsimp only;omega⟩
 ·split
  ·exact ⟨h1,by dsimp only;omega,by dsimp only;omega,by dsimp only;omega,by dsimp only;omega⟩
  ·exact ⟨h1,by dsimp only;omega,by dsimp only;omega,by dsimp only;omega,by dsimp only;omega⟩
theorem Dy {c:aH} (hg:Good c) {day day':Int} {ls:List Acc} (h:Inv c day ls) (h1:day≤day') (h2:day'≤40000):Inv c day' (jK c (day' - day) ls):=by
 refine ⟨by unfold jK;simpa using h.len,fun a ha=>?_,by have:=h.day;omega⟩
 unfold jK at ha
 obtain ⟨i,hi,rfl⟩:=List.getElem_of_mem ha
 rw [List.getElem_mapIdx]
 have:=Jc (h.ok _ (List.getElem_mem (by simpa using hi))) (show 0≤day' - day by omega) (ME hg i)
 rw [show day+(day' - day)=day' by omega] at this
 exact this
end Go.Proofs.YtgdbfbalchdmcaaGreat
open Go Go.RM
namespace Go.Proofs.YtgdbfbalchdmcaaGreat
set_option maxRecDepth 100000
set_option maxHeartbeats 4000000
abbrev MK (c:aH) (day:Int) (v n cc:Nat):List AV:=bh c++[ak day,.dM 1 v 0 n cc]
abbrev fk (c:aH) (day:Int) (v n cc:Nat):AB:=.cells (MK c day v n cc) 0 0
abbrev iC (ls:List Acc) (v:Nat):AB:=.cells (bX ls) 5 v
theorem ee (c:aH) (day:Int) (v n cc j:Nat) (hj:1 < j):AB.gM j (fk c day v n cc)=true:=by
 show (Nat.blt 1 j && true)=true
 rw [Bool.and_true]
 exact Nat.ble_eq_true_of_le hj
theorem cY (ls:List Acc) (v j:Nat):AB.gM j (iC ls v)=true:=Hl j ls
theorem KX (one:Bool) {c:aH} (hg:Good c) {day day':Int} {ls:List Acc} (hi:Inv c day ls) (h1:day≤day') (h2:day'≤40000) (v n cc:Nat) (hn:ls.length=n) {aA:bW} :
  au TT TB one (.fn 86 [] []) [.ptr 0 0 0,ak day'] [fk c day v n cc,iC ls v] aA fun a hp' amb'=>a=.tp []∧hp'=[fk c day' v n cc,iC (jK c (day' - day) ls) v]∧amb'=aA:=by
 obtain ⟨dd,hdd⟩:∃ dd,dd=day' - day:=⟨_,rfl⟩
 have hd:=hi.day
 have hn5:n≤5:=by rw [←hn,hi.len];exact hg.ah.2
 rw [←hdd]
 have hddr:day' - day=dd:=hdd.symm
 refine au.body (fn:=Tryz.f86) rfl rfl rfl ?_
 refine aa (mu:=fun _=>false) ?_
 repeat' (first |refine u1 ?_ |refine u2 ?_ |fail)
 rw [hddr]
 refine aG.aU (aj.to (l:=[(0,.ptr 0 0 0),(4,ak dd),(20,.dM 1 v 0 n cc),(21,ak (n:Int)),(22,ak (0:Nat))]) (hp:=[fk c day' v n cc,iC (jr c dd 0 ls) v]) 2 (by rw [yC];rfl) ⟨rfl,rfl,rfl,rfl,rfl,trivial⟩ (Nat.le_refl _) rfl (by simp only [List.all_cons,List.all_nil,Bool.and_true,Bool.and_eq_true];exact ⟨ee _ _ _ _ _ _ (by decide),cY _ _ _⟩)) ?_
 refine aG.loop (fun k:Nat=>k≤n) (fun k=>⟨bT [(0,.ptr 0 0 0),(4,ak dd),(20,.dM 1 v 0 n cc),(21,ak (n:Int)),(22,ak (k:Nat))],[fk c day' v n cc,iC (jr c dd k ls) v],aA,false,2⟩) (fun k=>n - k) ?_ 0 (Nat.zero_le _)
 intro k hk
 by_cases hlt:k < n
 ·have d1:decide ((k:Int) < (n:Int))=true:=decide_eq_true (by omega)
  have hkl:k < ls.length:=by omega
  have hak:ls[k]?=some ls[k]:=List.getElem?_eq_getElem hkl
  have hok:=hi.ok _ (List.getElem_mem hkl)
  have hkm:k < c.ah.length:=by rw [←hi.len];exact hkl
  have hmat:(c.ah.map cL)[((k:Nat):Int).toNat]?=some (cL c.ah[k]):=bP hkm
  have hmb:=hg.aR _ (List.getElem_mem hkm)
  obtain ⟨q,hq⟩:∃ q:Nat,c.ah[k].ny=(q:Int):=⟨c.ah[k].ny.toNat,by omega⟩
  have hqr:q < c.aI.length:=by omega
  have hrat:(c.aI.map cm)[(((q:Nat):Int)).toNat]?=some (cm c.aI[q]):=bP hqr
  rw [←hq] at hrat
  have hrb:=(hg.ny _ (List.getElem_mem hqr)).2.2.2
  have he:fy c k=c.aI[q].oS:=by
   unfold fy uV
   rw [List.getElem?_eq_getElem hkm]
   simp only [Option.bind_some,hq,Int.toNat_natCast,List.getElem?_eq_getElem hqr,Option.map_some,Option.getD_some]
  have hat:=Dw (c:=c) (dd:=dd) hak
  have hset:=yD (c:=c) (dd:=dd) hak
  have htl:k < (jr c dd k ls).length:=by rw [uW];exact hkl
  rw [he] at hset
  have hmu:=Dx (show 0≤dd by omega) hrb
  generalize c.ah[k]=m at *
  generalize c.aI[q]=r at *
  generalize jr c dd k ls=lk at *
  generalize ls[k]=a at *
  obtain ⟨p,ow,d0,d1',d2⟩:=a
  obtain ⟨op,oo,o0,o1,o2⟩:=hok
  dsimp only at op oo o0 o1 o2
  rcases op with rfl|rfl|rfl
  ·unfold nV at hset
   rw [if_pos rfl] at hset
   dsimp only at hset
   refine aa (mu:=fun _=>false) ?_
   repeat' (first |(refine vO (e:=[ak 0,ak ow,ak d0,ak d1',ak d2]) rfl rfl rfl hat (by simp) rfl ?_) |(refine Ap (y:=⟨0,ow+dd * r.oS,d0+dd,d1',d2⟩) rfl rfl rfl htl (by simp) rfl ?_) |refine u1 ?_ |((with_reducible show RM.wpOp _ _ (.indexAddr _ _ _) _ _ _);refine ⟨cL m,⟨by omega,hmat⟩,rfl,?_⟩) |((with_reducible show RM.wpOp _ _ (.indexAddr _ _ _) _ _ _);refine ⟨cm r,⟨by omega,hrat⟩,rfl,?_⟩) |refine u2 ?_ |fail)
   refine ⟨k+1,hlt,(by dsimp only;omega),aj.to 2 (by rw [←hset];rfl) ⟨rfl,rfl,rfl,rfl,aJ (by simp),trivial⟩ (Nat.le_refl _) rfl (by simp only [List.all_cons,List.all_nil,Bool.and_true,Bool.and_eq_true];exact ⟨ee _ _ _ _ _ _ (by decide),cY _ _ _⟩)⟩
  ·unfold nV at hset
   rw [if_neg (by simp),if_pos rfl] at hset
   dsimp only at hset
   refine aa (mu:=fun _=>false) ?_
   repeat' (first |refine u1 ?_ |(refine vO (e:=[ak 1,ak ow,ak d0,ak d1',ak d2]) rfl rfl rfl hat (by simp) rfl ?_) |(refine Ap (y:=⟨1,ow - dd * 1000,d0,d1'+dd,d2⟩) rfl rfl rfl htl (by simp) rfl ?_) |refine u2 ?_ |fail)
   refine ⟨k+1,hlt,(by dsimp only;omega),aj.to 2 (by rw [←hset];rfl) ⟨rfl,rfl,rfl,rfl,aJ (by simp),trivial⟩ (Nat.le_refl _) rfl (by simp only [List.all_cons,List.all_nil,Bool.and_true,Bool.and_eq_true];exact ⟨ee _ _ _ _ _ _ (by decide),cY _ _ _⟩)⟩
  ·unfold nV at hset
   rw [if_neg (by simp),if_neg (by simp)] at hset
   dsimp only at hset
   refine aa (mu:=fun _=>false) ?_
   repeat' (first |refine u1 ?_ |(refine vO (e:=[ak 2,ak ow,ak d0,ak d1',ak d2]) rfl rfl rfl hat (by simp) rfl ?_) |(refine Ap (y:=⟨2,ow,d0,d1',d2+dd⟩) rfl rfl rfl htl (by simp) rfl ?_) |refine u2 ?_ |fail)
   refine ⟨k+1,hlt,(by dsimp only;omega),aj.to 2 (by rw [←hset];rfl) ⟨rfl,rfl,rfl,rfl,aJ (by simp),trivial⟩ (Nat.le_refl _) rfl (by simp only [List.all_cons,List.all_nil,Bool.and_true,Bool.and_eq_true];exact ⟨ee _ _ _ _ _ _ (by decide),cY _ _ _⟩)⟩
 ·have d1:decide ((k:Int) < (n:Int))=false:=decide_eq_false (by omega)
  have hkn:k=ls.length:=by omega
  rw [hkn,Aq]
  rw [hkn] at d1
  refine aa (mu:=fun _=>false) ?_
  repeat' (first |refine u1 ?_ |refine u2 ?_ |fail)
  exact rfl
theorem Gd (one:Bool) {c:aH} (hg:Good c) {day day':Int} {ls:List Acc} (hi:Inv c day ls) (h1:day≤day') (h2:day'≤40000) (v n cc:Nat) (hn:ls.length=n) {aA:bW} (xa xb:AB) (hxa:AB.gM 4 xa=true) (hxb:AB.gM 4 xb=true) :
  au TT TB one (.fn 86 [] []) [.ptr 0 0 0,ak day'] [fk c day v n cc,iC ls v,xa,xb] aA fun a hp' amb'=>a=.tp []∧hp'=[fk c day' v n cc,iC (jK c (day' - day) ls) v,xa,xb]∧amb'=aA:=by
 obtain ⟨dd,hdd⟩:∃ dd,dd=day' - day:=⟨_,rfl⟩
 have hd:=hi.day
 have hn5:n≤5:=by rw [←hn,hi.len];exact hg.ah.2
 rw [←hdd]
 have hddr:day' - day=dd:=hdd.symm
 refine au.body (fn:=Tryz.f86) rfl rfl rfl ?_
 refine aa (mu:=fun _=>false) ?_
 repeat' (first |refine u1 ?_ |refine u2 ?_ |fail)
 rw [hddr]
 refine aG.aU (aj.to (l:=[(0,.ptr 0 0 0),(4,ak dd),(20,.dM 1 v 0 n cc),(21,ak (n:Int)),(22,ak (0:Nat))]) (hp:=[fk c day' v n cc,iC (jr c dd 0 ls) v,xa,xb]) 4 (by rw [yC];rfl) ⟨rfl,rfl,rfl,rfl,rfl,trivial⟩ (Nat.le_refl _) rfl (by simp only [List.all_cons,List.all_nil,Bool.and_true,Bool.and_eq_true];exact ⟨ee _ _ _ _ _ _ (by decide),cY _ _ _,hxa,hxb⟩)) ?_
 refine aG.loop (fun k:Nat=>k≤n) (fun k=>⟨bT [(0,.ptr 0 0 0),(4,ak dd),(20,.dM 1 v 0 n cc),(21,ak (n:Int)),(22,ak (k:Nat))],[fk c day' v n cc,iC (jr c dd k ls) v,xa,xb],aA,false,4⟩) (fun k=>n - k) ?_ 0 (Nat.zero_le _)
 intro k hk
 by_cases hlt:k < n
 ·have d1:decide ((k:Int) < (n:Int))=true:=decide_eq_true (by omega)
  have hkl:k < ls.length:=by omega
  have hak:ls[k]?=some ls[k]:=List.getElem?_eq_getElem hkl
  have hok:=hi.ok _ (List.getElem_mem hkl)
  have hkm:k < c.ah.length:=by rw [←hi.len];exact hkl
  have hmat:(c.ah.map cL)[((k:Nat):Int).toNat]?=some (cL c.ah[k]):=bP hkm
  have hmb:=hg.aR _ (List.getElem_mem hkm)
  obtain ⟨q,hq⟩:∃ q:Nat,c.ah[k].ny=(q:Int):=⟨c.ah[k].ny.toNat,by omega⟩
  have hqr:q < c.aI.length:=by omega
  have hrat:(c.aI.map cm)[(((q:Nat):Int)).toNat]?=some (cm c.aI[q]):=bP hqr
  rw [←hq] at hrat
  have hrb:=(hg.ny _ (List.getElem_mem hqr)).2.2.2
  have he:fy c k=c.aI[q].oS:=by
   unfold fy uV
   rw [List.getElem?_eq_getElem hkm]
   simp only [Option.bind_some,hq,Int.toNat_natCast,List.getElem?_eq_getElem hqr,Option.map_some,Option.getD_some]
  have hat:=Dw (c:=c) (dd:=dd) hak
  have hset:=yD (c:=c) (dd:=dd) hak
  have htl:k < (jr c dd k ls).length:=by rw [uW];exact hkl
  rw [he] at hset
  have hmu:=Dx (show 0≤dd by omega) hrb
  generalize c.ah[k]=m at *
  generalize c.aI[q]=r at *
  generalize jr c dd k ls=lk at *
  generalize ls[k]=a at *
  obtain ⟨p,ow,d0,d1',d2⟩:=a
  obtain ⟨op,oo,o0,o1,o2⟩:=hok
  dsimp only at op oo o0 o1 o2
  rcases op with rfl|rfl|rfl
  ·unfold nV at hset
   rw [if_pos rfl] at hset
   dsimp only at hset
   refine aa (mu:=fun _=>false) ?_
   repeat' (first |(refine vO (e:=[ak 0,ak ow,ak d0,ak d1',ak d2]) rfl rfl rfl hat (by simp) rfl ?_) |(refine Ap (y:=⟨0,ow+dd * r.oS,d0+dd,d1',d2⟩) rfl rfl rfl htl (by simp) rfl ?_) |refine u1 ?_ |((with_reducible show RM.wpOp _ _ (.indexAddr _ _ _) _ _ _);refine ⟨cL m,⟨by omega,hmat⟩,rfl,?_⟩) |((with_reducible show RM.wpOp _ _ (.indexAddr _ _ _) _ _ _);refine ⟨cm r,⟨by omega,hrat⟩,rfl,?_⟩) |refine u2 ?_ |fail)
   refine ⟨k+1,hlt,(by dsimp only;omega),aj.to 4 (by rw [←hset];rfl) ⟨rfl,rfl,rfl,rfl,aJ (by simp),trivial⟩ (Nat.le_refl _) rfl (by simp only [List.all_cons,List.all_nil,Bool.and_true,Bool.and_eq_true];exact ⟨ee _ _ _ _ _ _ (by decide),cY _ _ _,hxa,hxb⟩)⟩
  ·unfold nV at hset
   rw [if_neg (by simp),if_pos rfl] at hset
   dsimp only at hset
   refine aa (mu:=fun _=>false) ?_
   repeat' (first |refine u1 ?_ |(refine vO (e:=[ak 1,ak ow,ak d0,ak d1',ak d2]) rfl rfl rfl hat (by simp) rfl ?_) |(refine Ap (y:=⟨1,ow - dd * 1000,d0,d1'+dd,d2⟩) rfl rfl rfl htl (by simp) rfl ?_) |refine u2 ?_ |fail)
   refine ⟨k+1,hlt,(by dsimp only;omega),aj.to 4 (by rw [←hset];rfl) ⟨rfl,rfl,rfl,rfl,aJ (by simp),trivial⟩ (Nat.le_refl _) rfl (by simp only [List.all_cons,List.all_nil,Bool.and_true,Bool.and_eq_true];exact ⟨ee _ _ _ _ _ _ (by decide),cY _ _ _,hxa,hxb⟩)⟩
  ·unfold nV at hset
   rw [if_neg (by simp),if_neg (by simp)] at hset
   dsimp only at hset
   refine aa (mu:=fun _=>false) ?_
   repeat' (first |refine u1 ?_ |(refine vO (e:=[ak 2,ak ow,ak d0,ak d1',ak d2]) rfl rfl rfl hat (by simp) rfl ?_) |(refine Ap (y:=⟨2,ow,d0,d1',d2+dd⟩) rfl rfl rfl htl (by simp) rfl ?_) |refine u2 ?_ |fail)
   refine ⟨k+1,hlt,(by dsimp only;omega),aj.to 4 (by rw [←hset];rfl) ⟨rfl,rfl,rfl,rfl,aJ (by simp),trivial⟩ (Nat.le_refl _) rfl (by simp only [List.all_cons,List.all_nil,Bool.and_true,Bool.and_eq_true];exact ⟨ee _ _ _ _ _ _ (by decide),cY _ _ _,hxa,hxb⟩)⟩
 ·have d1:decide ((k:Int) < (n:Int))=false:=decide_eq_false (by omega)
  have hkn:k=ls.length:=by omega
  rw [hkn,Aq]
  rw [hkn] at d1
  refine aa (mu:=fun _=>false) ?_
  repeat' (first |refine u1 ?_ |refine u2 ?_ |fail)
  exact rfl
end Go.Proofs.YtgdbfbalchdmcaaGreat
open Go Go.RM
namespace Go.Proofs.YtgdbfbalchdmcaaGreat
set_option maxRecDepth 100000
set_option maxHeartbeats 4000000
theorem cw:vP TT TB:=by
 have h:Tr.FN (fun g (_:Func)=>TT.fn.get g=none∧TT.Ee.get g=none∧noEntry TB g=true) Ks id:=by
  unfold Ks
  repeat' (first |exact trivial |refine ⟨?_,?_,?_⟩ |fail)
  all_goals rfl
 exact fun g fn hg=>h.get g fn hg
abbrev ER (e:Int):AV:=.fl (.iface 39 (.int .i64 e))
theorem hJ (one:Bool) (n:Nat) (b:Bool) (e:Int) {hp:List AB} {aA:bW}:eT TT TB one (n+1) (.fn 156 [] []) [BB b,ak e] hp aA fun y hp' amb'=>hp'=hp∧amb'=aA∧((b=true∧y=.ret (.tp []))∨(b=false∧y=.fG (ER e))):=by
 refine eT.body (fn:=Tryz.f156) rfl rfl ?_
 refine az.seq ?_
 refine az.ops cw (mu:=fun _=>false) ?_
 repeat' (first |refine u1 ?_ |refine u2 ?_ |fail)
 refine cg ?_
 cases b with
 | true =>
  refine az.cond (t:=false) rfl (fun h=>Bool.noConfusion h) (fun _=>?_)
  exact az.here (fun _ _ _=>rfl) ⟨rfl,rfl,.inl ⟨rfl,rfl⟩⟩
 | false =>
  refine az.cond (t:=true) rfl (fun _=>?_) (fun h=>Bool.noConfusion h)
  refine az.MJ (id1:=0) (id2:=0) (l1:=_ :: _ :: []) (l2:=[_]) rfl rfl ?_
  refine az.seq ?_
  refine az.ops cw (mu:=fun _=>false) ?_
  repeat' (first |refine u1 ?_ |refine u2 ?_ |fail)
  refine cg ?_
  exact az.MI rfl ⟨rfl,rfl,.inr ⟨rfl,rfl⟩⟩
theorem eU {b:Bool} {e:Int} {r:AV} (h:(b=true∧zK.ret r=.ret (.tp []))∨(b=false∧zK.ret r=.fG (ER e))):b=true∧r=.tp []:=by
 rcases h with ⟨h1,h2⟩|⟨_,h2⟩
 ·cases h2;exact ⟨h1,rfl⟩
 ·cases h2
theorem eV {b:Bool} {e:Int} {r:AV} (h:(b=true∧zK.fG r=.ret (.tp []))∨(b=false∧zK.fG r=.fG (ER e))):b=false∧r=ER e:=by
 rcases h with ⟨_,h2⟩|⟨h1,h2⟩
 ·cases h2
 ·cases h2;exact ⟨h1,rfl⟩
end Go.Proofs.YtgdbfbalchdmcaaGreat
