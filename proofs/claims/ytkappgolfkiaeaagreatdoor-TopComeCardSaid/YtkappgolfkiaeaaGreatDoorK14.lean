/-
  Contracts of the program's functions and of the document's. Lemmas alone; their conditions stand in them.
-/
import Derived.Test.YtkappgolfkiaeaaGreatDoorK13
open Go Go.RM
namespace Go.Proofs.YtkappgolfkiaeaaGreatDoor.St
set_option maxRecDepth 100000
def fN (k:Int) (l:List Int) (c:jS):List Int:=if c.kind=k then l.set c.day.toNat (l.getD c.day.toNat 0+c.cC) else l
def ay (k:Int) (cs:List jS):List Int:=cs.foldl (fN k) (List.replicate 30 0)
theorem vh {k:Int} {l:List Int} {c:jS}:(fN k l c).length=l.length:=by unfold fN;split <;> simp
theorem l7 (k:Int) (cs:List jS) (c:jS):ay k (cs++[c])=fN k (ay k cs) c:=by simp [ay]
structure iR (n:Nat) (l:List Int):Prop where
 len:l.length=30
 T1:∀ x ∈ l,0≤x∧x≤300 * n
theorem iR.zero {k:Int}:iR 0 (ay k []):=⟨by simp [ay],fun x hx=>by simp [ay] at hx;omega⟩
theorem iR.get {n:Nat} {l:List Int} (h:iR n l) {d:Nat} (hd:d < 30):0≤l.getD d 0∧l.getD d 0≤300 * n:=by
 have:d < l.length:=by rw [h.len];exact hd
 rw [List.getD_eq_getElem?_getD,List.getElem?_eq_getElem this];exact h.T1 _ (List.getElem_mem _)
theorem iR.add {n:Nat} {l:List Int} (h:iR n l) {k:Int} {c:jS} (hd:0≤c.day∧c.day < 30) (ha:0≤c.cC∧c.cC≤300):iR (n+1) (fN k l c):=by
 refine ⟨by rw [vh];exact h.len,fun x hx=>?_⟩;unfold fN at hx;split at hx
 ·rcases List.mem_or_eq_of_mem_set hx with hx|rfl
  ·have:=h.T1 x hx;omega
  ·have:=h.get (d:=c.day.toNat) (by omega);omega
 ·have:=h.T1 x hx;omega
theorem lO {k:Int}:∀ {cs:List jS},(∀ c ∈ cs,(0≤c.day∧c.day < 30)∧0≤c.cC∧c.cC≤300)→iR cs.length (ay k cs):=by
 intro cs h
 have key:∀ (cs:List jS) (l:List Int) (n:Nat),iR n l→(∀ c ∈ cs,(0≤c.day∧c.day < 30)∧0≤c.cC∧c.cC≤300)→iR (n+cs.length) (cs.foldl (fN k) l):=by
  intro cs
  induction cs with
  | nil=>intro l n h _;exact h
  | cons c cs ih =>intro l n h1 h2;have:=ih _ (n+1) (h1.add (k:=k) (h2 c (by simp)).1 (h2 c (by simp)).2) (fun x hx=>h2 x (List.mem_cons_of_mem _ hx));rw [List.foldl_cons,List.length_cons,show n+(cs.length+1)=n+1+cs.length from by omega];exact this
 have:=key cs _ 0 (iR.zero (k:=k)) h
 rwa [Nat.zero_add] at this
noncomputable def z109:List AV:=match TT.ty.get 105 with|some ⟨_,_,_,some z,_,_,_⟩=>z.cells.toList.map .fl|_=>[]
abbrev eC (n:Int):AV:=av n
def nZ (s:aI) (k:Kind):List AV:=aN s++cA k
abbrev NB:AV:=.fl (.slice none 0 0)
abbrev aM (s:aI) (k:Kind) (row:List Int) (c:AV):List AV:=nZ s k++(row.map eC++[c])
theorem uS {n:Nat} {a b:List AV} (h:iA n a=true) (k:iA n b=true):iA n (a++b)=true:=by
 induction a with
 | nil=>exact k
 | cons x a ih =>simp only [iA,qq7] at h;simp only [List.cons_append,iA,qq7];exact ⟨h.1,ih h.2⟩
theorem j5 {a b:List AV} (h:bG a=true) (k:bG b=true):bG (a++b)=true:=by
 induction a with
 | nil=>exact k
 | cons x a ih =>simp only [bG,qq7] at h;simp only [List.cons_append,bG,qq7];exact ⟨h.1,ih h.2⟩
theorem xE (l:List Int):bG (l.map eC)=true:=by
 induction l with
 | nil=>rfl
 | cons a l ih=>exact ih
theorem kU {s:aI} {k:Kind} {row:List Int} {c:AV} (h:c.deep=true):(AV.ag (aM s k row c)).deep=true :=
 j5 rfl (j5 (xE row) (by simp [bG,h]))
theorem ew {s:aI} {k:Kind} {row:List Int} {c:AV} (h:row.length=30):(aM s k row c).length=43:=by simp [aM,nZ,h]
theorem Dk {s:aI} {k:Kind} {row:List Int} {c:AV} {d:Nat} (h:d < row.length):(aM s k row c)[0+12+d * 1]?=some (av (row.getD d 0)):=by
 rw [List.getElem?_append_right (by simp [nZ]),List.getElem?_append_left (by simp [nZ];omega),List.getElem?_map];have e:0+12+d * 1 - (nZ s k).length=d:=by simp [nZ]
 rw [e,List.getD_eq_getElem?_getD,List.getElem?_eq_getElem h];rfl
theorem pW {s:aI} {k:Kind} {row:List Int} {c:AV} (h:row.length=30):(aM s k row c)[0+42]?=some c:=by
 rw [List.getElem?_append_right (by simp [nZ]),List.getElem?_append_right (by simp [nZ,h])];have e:0+42 - (nZ s k).length - (row.map eC).length=0:=by simp [nZ,h]
 rw [e];rfl
theorem zE {s:aI} {k:Kind} {row:List Int} {c:AV} (h:row.length=30) (x:AV):eX (aM s k row c) [x] (0+42)=aM s k row x:=by
 have e:(nZ s k).length=12:=by simp [nZ]
 have h1:eX (aM s k row c) [x] (0+42)=(aM s k row c).set (0+42) x:=by rw [List.set_eq_take_append_cons_drop,if_pos (by simp [aM,nZ];omega)];unfold eX;simp
 rw [h1,List.set_append_right _ _ (by omega),List.set_append_right _ _ (by simp [e];omega),e,List.length_map,h];rfl
theorem JX {s:aI} {k:Kind} {row:List Int} {c:AV} {d:Nat} (h:d < row.length) (v:Int):eX (aM s k row c) [av v] (0+12+d * 1)=aM s k (row.set d v) c:=by
 have e:(nZ s k).length=12:=by simp [nZ]
 have h1:eX (aM s k row c) [av v] (0+12+d * 1)=(aM s k row c).set (0+12+d * 1) (av v):=by rw [List.set_eq_take_append_cons_drop,if_pos (by simp [aM,nZ];omega)];unfold eX;simp
 rw [h1,List.set_append_right _ _ (by omega),List.set_append_left _ _ (by simp [e];omega),e,show 0+12+d * 1 - 12=d from by omega];show _=nZ s k++((row.set d v).map eC++[c]);rw [List.map_set]
theorem oR {s:aI} {k:Kind} {row:List Int} {c:AV} {n:Nat} (h:c.jN n=true):([.cells z109 0 0,.cells (aM s k row c) 0 0]:List AB).all (AB.jN n)=true:=by
 have e:iA n (aM s k row c)=true:=by
  refine uS rfl (uS ?_ (by simp [iA,h]))
  induction row with
  | nil=>rfl
  | cons a l ih=>exact ih
 simp only [List.all_cons,AB.jN,e,List.all_nil,Bool.and_true];rfl
def xF:List Count→List AB
 | []=>[]
 | c :: l=>[.cells (aP c) 0 0,.cells ((c :: l).map aP).flatten 4 l.length]
def nK:List Count→AV
 | []=>NB
 | _ :: l=>.dw 3 l.length 0 (l.length+1) (l.length+2)
theorem Bp (l:List Count):bG (l.map aP).flatten=true:=by
 induction l with
 | nil=>rfl
 | cons a l ih=>exact ih
theorem jQ (l:List Count):(l.map aP).flatten.length=l.length * 4:=by
 induction l with
 | nil=>rfl
 | cons a l ih =>simp only [List.map_cons,List.flatten_cons,List.length_append,ih,List.length_cons,List.length_nil];omega
theorem Dl (n:Nat) (l:List Count):iA n (l.map aP).flatten=true:=by
 induction l with
 | nil=>rfl
 | cons a l ih=>exact ih
theorem JY (n:Nat) (f:List Count):(xF f).all (AB.jN n)=true:=by
 cases f with
 | nil=>rfl
 | cons c l =>simp only [xF,List.all_cons,AB.jN,Dl,List.all_nil,Bool.and_true];rfl
theorem Fz.Qm {hp:List AB} {l:List AV} {x y:AV} (hl:bG l=true) (h:Fz hp x y):Fz hp (.ag (l++[x])) (.ag (l++[y])):=by
 refine Fz.ag (by simp) (fun i a b ha hb=>?_);by_cases hi:i < l.length
 ·rw [List.getElem?_append_left hi] at ha hb;rw [ha] at hb;cases hb;exact Fz.deep (gF hl i a ha)
 ·rw [List.getElem?_append_right (by omega)] at ha hb
  cases hii:i - l.length with
  | zero=>rw [hii] at ha hb;cases ha;cases hb;exact h
  | succ n=>rw [hii] at ha;cases ha
theorem Qn (a b:AB) (f:List Count):Fz (a :: b :: xF f) (nK f) (.sl (f.map aP) false):=by
 cases f with
 | nil=>exact Fz.nil
 | cons c l=>exact Fz.row (es:=4) rfl (by rw [jQ];simp) (by simp) (fun el hel=>by obtain ⟨x,_,rfl⟩:=List.mem_map.1 hel;rfl) (by rw [List.drop_zero,List.take_of_length_le (by rw [jQ];simp)]) (Bp _) (fun h=>Bool.noConfusion h)
theorem EX {s:aI} {k:Kind} {row:List Int} {f:List Count}:(.cells z109 0 0 :: .cells (aM s k row (nK f)) 0 0 :: xF f:List AB).all (AB.jN 4)=true:=by have h:=oR (s:=s) (k:=k) (row:=row) (c:=nK f) (n:=4) (by cases f <;> rfl);simp only [List.all_cons,List.all_nil,Bool.and_true,qq7] at h ⊢;exact ⟨h.1,h.2,JY 4 f⟩
theorem HD (c0 c:Count) (f:List Count):nK (c0 :: (f++[c]))=.dw 3 (f.length+1) 0 (f.length+1+1) (f.length+1+1+1):=by simp [nK]
theorem HE (c0 c:Count) (f:List Count):xF (c0 :: (f++[c]))=[.cells (aP c0) 0 0,.cells (((c0 :: f).map aP).flatten++[aP c].flatten) 4 (f.length+1)]:=by simp [xF]
theorem mR {s:aI} {k:Kind} {row:List Int} {c:AV} (h:row.length=30):List.take 43 (List.drop 0 (aM s k row c))=aM s k row c:=by rw [List.drop_zero,List.take_of_length_le (by rw [ew h];omega)]
theorem JZ {s:aI} {k:Kind} {row:List Int} {f:List Count}:(AV.ag (aM s k row (nK f))).cells.all AV.one=true:=by
 show (aM s k row (nK f)).all AV.one=true
 have h1:(row.map eC).all AV.one=true:=by
  induction row with
  | nil=>rfl
  | cons a l ih=>exact ih
 rw [List.all_append,List.all_append,h1];cases f <;> rfl
theorem NC {s:aI} {k:Kind} {row:List Int} {f:List Count} {a b:AB}:Fz (a :: b :: xF f) (.ag (aM s k row (nK f))) (.ag (aM s k row (.sl (f.map aP) false))):=by
 have h:∀ c:AV,aM s k row c=(nZ s k++row.map eC)++[c]:=fun c=>by simp [aM]
 rw [h,h];exact Fz.Qm (j5 rfl (xE row)) (Qn a b f)
theorem Qo (one:Bool) (s:aI) (counts:List Count) (full:Bool) (i:Nat) (hi:i < s.kinds.length) (hc:∀ c ∈ s.au,(0≤c.day∧c.day < 30)∧0≤c.cC∧c.cC≤300) (hl:s.au.length≤9) (hn:counts.length≤1000) :
  Pu one 61 [.ag (aN s),.sl (counts.map aP) full,av i] (.ag (aM s s.kinds[i] (ay i s.au) (.sl ((counts.filter (fun c=>decide (c.kind=(i:Int)))).map aP) false))):=by
 have ec:((s.au.map fL).length:Int)=s.au.length:=by simp
 have en:((counts.map aP).length:Int)=counts.length:=by simp
 refine af.body (fn:=Tryz.f61) rfl rfl rfl (kU rfl) ?_;refine aa (mu:=fun t=>Nat.beq t 55) ?_;repeat' first |with_reducible (first|refine bk ?_|refine bg ?_)|refine u2 ?_|refine ⟨cA s.kinds[i],⟨by omega,bI hi⟩,rfl,?_⟩|fail
 repeat' first |with_reducible (first|refine bk ?_|refine bg ?_|refine aZ ?_)|refine u2 ?_|fail
 refine aE.aS (ai.to (l:=[(1,.sl (counts.map aP) full),(2,av i),(6,.ptr 0 0 0),(7,.ptr 1 0 0),(20,.sl (s.au.map fL) false),(21,av s.au.length),(22,av ((0:Nat):Int))]) (hp:=[.cells z109 0 0,.cells (aM s s.kinds[i] (ay i (s.au.take 0)) NB) 0 0]) 2 rfl ⟨rfl,rfl,rfl,rfl,rfl,aJ ec,rfl,trivial⟩ (qq5 _) rfl rfl) ?_;refine aE.loop (fun j:Nat=>j≤s.au.length) (fun j=>⟨bA [(1,.sl (counts.map aP) full),(2,av i),(6,.ptr 0 0 0),(7,.ptr 1 0 0),(20,.sl (s.au.map fL) false),(21,av s.au.length),(22,av (j:Int))],[.cells z109 0 0,.cells (aM s s.kinds[i] (ay i (s.au.take j)) NB) 0 0],cz.none,false,0⟩) (fun j=>s.au.length - j) ?_ 0 (qq5 _);intro j hj;have hrow:iR (s.au.take j).length (ay i (s.au.take j)):=lO fun c hx=>hc c (List.mem_of_mem_take hx);have hrl:(s.au.take j).length=j:=by simp;omega
 rw [hrl] at hrow;refine aa (mu:=fun t=>Nat.beq t 55) ?_;repeat' first |with_reducible (first|refine bk ?_|refine bg ?_)|fail
 refine ⟨fun h=>?_,fun h=>?_⟩
 ·have hlt:j < s.au.length:=by simpa only [decide_eq_true_eq,Int.ofNat_lt] using h
  have hcj:=hc s.au[j] (List.getElem_mem hlt);have hrow':ay i (s.au.take (j+1))=fN i (ay i (s.au.take j)) s.au[j]:=by rw [List.take_add_one,List.getElem?_eq_getElem hlt];exact l7 _ _ _
  generalize ay i (s.au.take j)=row at hrow hrow' ⊢;have hg:=hrow.get (d:=s.au[j].day.toNat) (by omega);repeat' first |with_reducible (first|refine bQ ?_|refine bk ?_|refine fm ?_|refine bg ?_|refine aZ ?_)|refine u2 ?_|refine ⟨fL s.au[j],⟨by omega,bI hlt⟩,rfl,?_⟩|fail
  refine ⟨fun h2=>?_,fun h2=>?_⟩
  ·have hd:s.au[j].day.toNat < row.length:=by rw [hrow.len];omega
   repeat' first |with_reducible refine wV ?_|refine u2 ?_|refine ⟨_,_,rfl,av (row.getD s.au[j].day.toNat 0),Dk hd,?_⟩|(refine ⟨_,_,rfl,rfl,rfl,rfl,by rw [ew hrow.len];omega,?_⟩)|fail
   have h2:s.au[j].kind=(i:Int):=by simpa using h2
   refine ⟨j+1,hlt,(by dsimp only;omega),ai.to 2 ?_ ⟨rfl,rfl,rfl,rfl,rfl,rfl,aJ (by simp),trivial⟩ (qq5 _) rfl (oR rfl)⟩;rw [hrow',fN,if_pos h2,←JX hd];rfl
  ·have h2:¬ s.au[j].kind=(i:Int):=by simpa using h2
   repeat' first |with_reducible refine bQ ?_|refine u2 ?_|fail
   refine ⟨j+1,hlt,(by dsimp only;omega),ai.to 2 ?_ ⟨rfl,rfl,rfl,rfl,rfl,rfl,aJ (by simp),trivial⟩ (qq5 _) rfl (oR rfl)⟩;rw [hrow',fN,if_neg h2];rfl
 ·have hj:s.au.take j=s.au:=List.take_of_length_le (by simp only [decide_eq_false_iff_not] at h;omega);rw [hj] at hrow ⊢;generalize ay i s.au=row at hrow ⊢;have h30:=hrow.len;clear hrow
  skip
  refine aE.aS (ai.to (l:=[(2,av i),(6,.ptr 0 0 0),(7,.ptr 1 0 0),(41,.sl (counts.map aP) full),(42,av counts.length),(43,av ((0:Nat):Int))]) (hp:=.cells z109 0 0 :: .cells (aM s s.kinds[i] row (nK [])) 0 0 :: xF []) 2 rfl ⟨rfl,rfl,rfl,rfl,aJ en,rfl,trivial⟩ (qq5 _) rfl (oR rfl)) ?_;refine aE.loop (fun x:Nat × List Count=>x.1≤counts.length∧x.2=(counts.take x.1).filter (fun c=>decide (c.kind=(i:Int)))) (fun x=>⟨bA [(2,av i),(6,.ptr 0 0 0),(7,.ptr 1 0 0),(41,.sl (counts.map aP) full),(42,av counts.length),(43,av (x.1:Int))],.cells z109 0 0 :: .cells (aM s s.kinds[i] row (nK x.2)) 0 0 :: xF x.2,cz.none,false,0⟩) (fun x=>counts.length - x.1) ?_ (0,[]) ⟨qq5 _,rfl⟩;intro ⟨m,f⟩ ⟨hm,hf⟩;refine aa (mu:=fun t=>Nat.beq t 55) ?_;repeat' first |with_reducible (first|refine bk ?_|refine bg ?_)|fail
  refine ⟨fun h=>?_,fun h=>?_⟩
  ·have hlt:m < counts.length:=by simpa only [decide_eq_true_eq,Int.ofNat_lt] using h
   have hft:(counts.take (m+1)).filter (fun c=>decide (c.kind=(i:Int)))=f++(if counts[m].kind=(i:Int) then [counts[m]] else []):=by
    rw [List.take_add_one,List.getElem?_eq_getElem hlt,List.filter_append,←hf];by_cases hk:counts[m].kind=(i:Int)
    ·simp [hk]
    ·simp [hk]
   cases f with
   | nil =>
    repeat' first |with_reducible (first|refine bQ ?_|refine bk ?_|refine fm ?_|refine bg ?_|refine aZ ?_)|refine u2 ?_|refine ⟨aP counts[m],⟨by omega,bI hlt⟩,rfl,?_⟩|fail
    refine ⟨fun h2=>?_,fun h2=>?_⟩
    ·have h2:counts[m].kind=(i:Int):=by simpa using h2
     repeat' first |with_reducible refine bg ?_|refine u2 ?_|refine ⟨_,_,rfl,_,pW h30,?_⟩|fail
     refine ⟨[aP counts[m]],⟨fun el hel=>by rw [List.mem_singleton.1 hel];rfl,rfl⟩,rfl,And.intro (Nat.le_of_ble_eq_true rfl) (Nat.le_of_ble_eq_true rfl),fun hn=>absurd hn (by simp),fun _=>?_⟩;repeat' first|refine u2 ?_|(refine ⟨_,_,rfl,rfl,rfl,rfl,by rw [ew h30];omega,?_⟩)|fail
     refine ⟨(m+1,[counts[m]]),⟨hlt,by rw [hft,if_pos h2];rfl⟩,(by dsimp only;omega),ai.to 4 ?_ ⟨rfl,rfl,rfl,rfl,rfl,aJ (by simp),trivial⟩ (qq5 _) rfl ?_⟩
     ·show _=AB.cells z109 0 0 :: AB.cells (aM s s.kinds[i] row (nK [counts[m]])) 0 0 :: xF [counts[m]];rw [←zE (c:=NB) h30 (nK [counts[m]])];rfl
     ·exact EX
    ·have h2:¬ counts[m].kind=(i:Int):=by simpa using h2
     repeat' first |with_reducible refine bQ ?_|refine u2 ?_|fail
     refine ⟨(m+1,[]),⟨hlt,by rw [hft,if_neg h2];rfl⟩,(by dsimp only;omega),ai.to 2 rfl ⟨rfl,rfl,rfl,rfl,rfl,aJ (by simp),trivial⟩ (qq5 _) rfl (oR rfl)⟩
   | cons c0 f =>
    have hfl:f.length+1≤1000:=by have:((counts.take m).filter (fun c=>decide (c.kind=(i:Int)))).length≤counts.length:=Nat.le_trans (List.length_filter_le _ _) (by simp;omega);rw [←hf] at this;simpa using Nat.le_trans this hn
    repeat' first |with_reducible (first|refine bQ ?_|refine bk ?_|refine fm ?_|refine bg ?_|refine aZ ?_)|refine u2 ?_|refine ⟨aP counts[m],⟨by omega,bI hlt⟩,rfl,?_⟩|fail
    refine ⟨fun h2=>?_,fun h2=>?_⟩
    ·have h2:counts[m].kind=(i:Int):=by simpa using h2
     repeat' first |with_reducible refine bg ?_|refine u2 ?_|refine ⟨_,_,rfl,_,pW h30,?_⟩|fail
     refine ⟨[aP counts[m]],⟨fun el hel=>by rw [List.mem_singleton.1 hel];rfl,rfl⟩,rfl,_,rfl,jQ (c0 :: f),Or.inr rfl,And.intro (by dsimp only [List.length];omega) (by dsimp only [List.length];omega),fun hn=>absurd hn (by simp),fun _=>?_⟩;repeat' first|refine u2 ?_|(refine ⟨_,_,rfl,rfl,rfl,rfl,by rw [ew h30];omega,?_⟩)|fail
     refine ⟨(m+1,c0 :: (f++[counts[m]])),⟨hlt,by rw [hft,if_pos h2];rfl⟩,(by dsimp only;omega),ai.to 4 ?_ ⟨rfl,rfl,rfl,rfl,rfl,aJ (by simp),trivial⟩ (qq5 _) rfl EX⟩;show _=AB.cells z109 0 0 :: AB.cells (aM s s.kinds[i] row (nK (c0 :: (f++[counts[m]])))) 0 0 :: xF (c0 :: (f++[counts[m]]));rw [←zE (c:=nK (c0 :: f)) h30 (nK (c0 :: (f++[counts[m]]))),HD,HE];rfl
    ·have h2:¬ counts[m].kind=(i:Int):=by simpa using h2
     repeat' first |with_reducible refine bQ ?_|refine u2 ?_|fail
     refine ⟨(m+1,c0 :: f),⟨hlt,by rw [hft,if_neg h2,List.append_nil]⟩,(by dsimp only;omega),ai.to 4 rfl ⟨rfl,rfl,rfl,rfl,rfl,aJ (by simp),trivial⟩ (qq5 _) rfl EX⟩
  ·have hm:counts.take m=counts:=List.take_of_length_le (by simp only [decide_eq_false_iff_not] at h;omega);rw [hm] at hf;simp only at hf;subst hf;generalize hF:counts.filter (fun c=>decide (c.kind=(i:Int)))=f;repeat' first|(refine ⟨_,_,rfl,by rw [ew h30];omega,?_⟩)|fail
   rw [mR h30];repeat' first|(refine ⟨_,_,rfl,rfl,JZ,ew h30,Nat.le_of_ble_eq_true rfl,?_⟩)|fail
   have e:eX z109 (AV.ag (aM s s.kinds[i] row (nK f))).cells 0=aM s s.kinds[i] row (nK f):=by show []++(aM s s.kinds[i] row (nK f))++z109.drop (0+(aM s s.kinds[i] row (nK f)).length)=_;rw [ew h30,show z109.drop (0+43)=[] from rfl,List.nil_append,List.append_nil]
   rw [e];refine ⟨_,_,rfl,by rw [ew h30];omega,?_⟩;rw [mR h30];exact ⟨[_],⟨NC,trivial⟩,rfl⟩
def sR (k:Kind) (t:aR) (down:Int) (i:Nat) (n:Int):Int:=if down≤i then (n * t.bp * k.dh+1000 - 1) / 1000 else n * t.bp
def lP (ax:List Int) (k:Kind) (row:List Int) (t:aR) (down:Int) (i:Nat) (have_:Int):Int :=
 max have_ (min (have_+row.getD i 0) k.room) - sR k t down i (ax.getD i 0) - t.aD
def bz (ax:List Int) (k:Kind) (row:List Int) (t:aR) (down:Int):Nat→Int
 | 0=>t.first
 | i+1=>max 0 (lP ax k row t down i (bz ax k row t down i))
def cm (ax:List Int) (k:Kind) (row:List Int) (t:aR) (down:Int):Nat→Int
 | 0=>ax.length
 | i+1=>if lP ax k row t down i (bz ax k row t down i) < 0 then min (cm ax k row t down i) i else cm ax k row t down i
structure gI (ax:List Int) (k:Kind) (row:List Int) (t:aR):Prop where
 Dm:ax.length≤30
 ax:∀ n ∈ ax,0≤n∧n≤12
 row:iR 9 row
 room:0≤k.room∧k.room≤300
 dh:0≤k.dh∧k.dh≤1000
 first:0≤t.first∧t.first≤300
 bp:0≤t.bp∧t.bp≤6
 aD:0≤t.aD∧t.aD≤12
theorem gI.n {ax:List Int} {k:Kind} {row:List Int} {t:aR} (h:gI ax k row t) {i:Nat} (hi:i < ax.length):0≤ax.getD i 0∧ax.getD i 0≤12:=by rw [List.getD_eq_getElem?_getD,List.getElem?_eq_getElem hi];exact h.ax _ (List.getElem_mem _)
theorem lQ {a b A B:Int} (ha:0≤a∧a≤A) (hb:0≤b∧b≤B):0≤a * b∧a * b≤A * B :=
 ⟨Int.mul_nonneg ha.1 hb.1,Int.mul_le_mul ha.2 hb.2 hb.1 (by omega)⟩
theorem gI.Uh {ax:List Int} {k:Kind} {row:List Int} {t:aR} (h:gI ax k row t) (down:Int) {i:Nat} (hi:i < ax.length):0≤sR k t down i (ax.getD i 0)∧sR k t down i (ax.getD i 0)≤72:=by have h1:=lQ (h.n hi) h.bp;have h2:=lQ h1 h.dh;unfold sR;split <;> omega
theorem gI.zF {ax:List Int} {k:Kind} {row:List Int} {t:aR} (h:gI ax k row t) (down:Int):∀ i,i≤ax.length→0≤bz ax k row t down i∧bz ax k row t down i≤300
 | 0,_=>h.first
 | i+1,hi=>by have ih:=h.zF down i (by omega);have h1:=h.Uh down (i:=i) (by omega);have h2:=h.row.get (d:=i) (by have:=h.Dm;omega);have h3:=h.room;have h4:=h.aD;simp only [bz,lP];omega
theorem zG (ax:List Int) (k:Kind) (row:List Int) (t:aR) (down:Int) (i:Nat):bz ax k row t down (i+1)=max 0 (max (bz ax k row t down i) (min (bz ax k row t down i+row.getD i 0) k.room) - (if down≤i then (ax.getD i 0 * t.bp * k.dh+1000 - 1) / 1000 else ax.getD i 0 * t.bp) - t.aD):=rfl
theorem xG (ax:List Int) (k:Kind) (row:List Int) (t:aR) (down:Int) (i:Nat):cm ax k row t down (i+1)=if max (bz ax k row t down i) (min (bz ax k row t down i+row.getD i 0) k.room) - (if down≤i then (ax.getD i 0 * t.bp * k.dh+1000 - 1) / 1000 else ax.getD i 0 * t.bp) - t.aD < 0 then min (cm ax k row t down i) i else cm ax k row t down i:=rfl
def Bq:Nat→Nat
 | 0=>1
 | k+1=>k+3
abbrev vi (ax:List Int) (k:Kind) (row:List Int) (t:aR) (down:Int) (n:Nat):AB:=.cells ((List.range (n+1)).map fun i=>av (bz ax k row t down i)) 1 n
theorem kr {s:aI} {k:Kind} {row:List Int} {f:List (List AV)} {b:Bool}:(AV.ag (aM s k row (.sl f b))).cells.all AV.one=true:=by
 show (aM s k row (.sl f b)).all AV.one=true
 have h1:(row.map eC).all AV.one=true:=by
  induction row with
  | nil=>rfl
  | cons a l ih=>exact ih
 rw [List.all_append,List.all_append,h1];rfl
theorem nL {s:aI} {k:Kind} {row:List Int} {f:List (List AV)} {b:Bool}:bG (AV.ag (aM s k row (.sl f b))).cells=true:=kU rfl
theorem iT (i:Nat):Bq i=i+1∨Bq i=i+1+1:=by cases i <;> simp [Bq]
theorem dU {ax:List Int} {k:Kind} {row:List Int} {t:aR} {down:Int} {i:Nat} {v:Int} (h:bz ax k row t down (i+1)=v) :
  [AB.cells (((List.range (i+1)).map fun i=>av (bz ax k row t down i))++[eI v].flatten) 1 (i+1)]=[vi ax k row t down (i+1)]:=by
 rw [vi,List.range_succ (n:=i+1),List.map_append,List.map_cons,h];rfl
theorem mN {α:Type} {f:α→AV} {n:Nat} (h:∀ a,(f a).jN n=true):∀ l:List α,iA n (l.map f)=true
 | []=>rfl
 | a :: l=>by simp only [List.map_cons,iA,h a,mN h l,Bool.and_true]
theorem kn {α:Type} {f:α→AV} (h:∀ a,(f a).deep=true):∀ l:List α,bG (l.map f)=true
 | []=>rfl
 | a :: l=>by simp only [List.map_cons,bG,h a,kn h l,Bool.and_true]
theorem ue {α:Type} {f:α→AV}:∀ l:List α,(l.map fun a=>[f a]).flatten=l.map f
 | []=>rfl
 | a :: l=>by simp only [List.map_cons,List.flatten_cons,ue l];rfl
theorem ey (ax:List Int) (k:Kind) (row:List Int) (t:aR) (down:Int) (i:Nat):([vi ax k row t down i]:List AB).all (AB.jN 1)=true:=by simp only [List.all_cons,List.all_nil,Bool.and_true,AB.jN];exact mN (fun _=>rfl) _
theorem EY (ax:List Int) (k:Kind) (row:List Int) (t:aR) (down:Int) (i:Nat):Fz [vi ax k row t down i] (.dw 0 i 0 (i+1) (Bq i)) (.sl ((List.range (i+1)).map fun i=>eI (bz ax k row t down i)) false) :=
 Fz.row (es:=1) rfl (by simp) (by simp) (fun el hel=>by obtain ⟨x,_,rfl⟩:=List.mem_map.1 hel;rfl) (by rw [ue (f:=fun i=>av (bz ax k row t down i)),List.drop_zero,List.take_of_length_le (by simp)]) (by rw [ue (f:=fun i=>av (bz ax k row t down i))];exact kn (fun _=>rfl) _) (fun h=>Bool.noConfusion h)
theorem On (one:Bool) (s:aI) (k:Kind) (row:List Int) (cnts:List (List AV)) (t:aR) (down:Int) (h:gI s.ax k row t) :
  Pu one 62 [.ag (aM s k row (.sl cnts false)),.ag (bC t),av down] (.tp [.sl ((List.range (s.ax.length+1)).map fun i=>eI (bz s.ax k row t down i)) false,av (cm s.ax k row t down s.ax.length)]):=by
 have em:((s.ax.map eI).length:Int)=s.ax.length:=by simp
 refine af.body (fn:=Tryz.f62) rfl rfl rfl rfl ?_;refine aa (mu:=fun t=>Nat.beq t 69 || Nat.beq t 15) ?_;refine ⟨rfl,kr,nL,?_⟩;repeat' first |with_reducible (first|refine bk ?_|refine bg ?_|refine aZ ?_)|refine u2 ?_|fail
 refine aE.aS (ai.to (l:=[(2,av down),(3,.pt (aM s k row (.sl cnts false)) 0),(4,.pt (bC t) 0),(6,.dw 0 0 0 1 1),(7,av s.ax.length),(8,av t.first),(22,.sl (s.ax.map eI) false),(23,av s.ax.length),(24,av ((0:Nat):Int))]) (hp:=[vi s.ax k row t down 0]) 1 rfl ⟨rfl,rfl,rfl,rfl,aJ em,rfl,rfl,aJ em,rfl,trivial⟩ (qq5 _) rfl rfl) ?_;refine aE.loop (fun i:Nat=>i≤s.ax.length) (fun i=>⟨bA [(2,av down),(3,.pt (aM s k row (.sl cnts false)) 0),(4,.pt (bC t) 0),(6,.dw 0 i 0 (i+1) (Bq i)),(7,av (cm s.ax k row t down i)),(8,av (bz s.ax k row t down i)),(22,.sl (s.ax.map eI) false),(23,av s.ax.length),(24,av (i:Int))],[vi s.ax k row t down i],cz.none,false,0⟩) (fun i=>s.ax.length - i) ?_ 0 (qq5 _);intro i hi;refine aa (mu:=fun t=>Nat.beq t 69 || Nat.beq t 15) ?_;repeat' first |with_reducible (first|refine bk ?_|refine bg ?_)|fail
 refine ⟨fun h2=>?_,fun h2=>?_⟩
 ·have hlt:i < s.ax.length:=by simpa only [decide_eq_true_eq,Int.ofNat_lt] using h2
  have b1:=h.n hlt;have b2:=lQ b1 h.bp;have b3:=lQ b2 h.dh;have b4:=h.zF down i hi;have b5:=h.row.get (d:=i) (by have:=h.Dm;omega);have b6:=h.room;have b7:=h.aD;have hget:s.ax[i]=s.ax.getD i 0:=by rw [List.getD_eq_getElem?_getD,List.getElem?_eq_getElem hlt];rfl
  have hhv:=zG s.ax k row t down i;have hsh:=xG s.ax k row t down i;rw [←hget] at b1 b2 b3 hhv hsh;repeat' first |with_reducible (first|refine bQ ?_|refine bk ?_|refine fm ?_|refine bg ?_|refine aZ ?_)|refine u2 ?_|refine ⟨eI s.ax[i],⟨by omega,bI hlt⟩,rfl,?_⟩|fail
  generalize s.ax[i]=n at b1 b2 b3 hhv hsh;generalize bz s.ax k row t down i=hv at b4 hhv hsh;have b8:=h.Dm;have hd:i < row.length:=by rw [h.row.len];omega
  have hg:(aM s k row (.sl cnts false))[0+12+(i:Int).toNat * 1]?=some (av (row.getD i 0)):=Dk (d:=i) hd;have hq:IntKind.i64.wrap ((n * t.bp * k.dh+1000 - 1).tdiv 1000)=(n * t.bp * k.dh+1000 - 1) / 1000:=IntWalk.i64_quo _ 1000 (by omega)
  skip
  refine ⟨fun h3=>?_,fun h3=>?_⟩
  ·rw [if_pos (show down≤(i:Int) by simpa using h3)] at hhv hsh;repeat' first |with_reducible refine bg ?_|refine u2 ?_|fail
   rw [hq];have hu:0≤(n * t.bp * k.dh+1000 - 1) / 1000∧(n * t.bp * k.dh+1000 - 1) / 1000≤72:=by omega
   generalize (n * t.bp * k.dh+1000 - 1) / 1000=u at hhv hsh hu;refine ⟨_,hg,?_⟩;repeat' first |with_reducible (first|refine bQ ?_|refine bk ?_|refine bg ?_|refine aZ ?_)|refine u2 ?_|refine ⟨fun h=>?_,fun h=>?_⟩|fail
   ·refine ⟨[eI 0],⟨fun el hel=>by rw [List.mem_singleton.1 hel];rfl,rfl⟩,rfl,_,rfl,by simp,iT i,And.intro (by dsimp only [List.length];omega) (by dsimp only [List.length];omega),fun hn=>absurd hn (by simp),fun _=>?_⟩;repeat' first|refine u2 ?_|fail
    rw [decide_eq_true_eq] at h;rw [if_pos h] at hsh;refine ⟨i+1,hlt,(by dsimp only;omega),ai.to 1 (dU (by rw [hhv];omega)) ⟨rfl,rfl,rfl,rfl,aJ hsh.symm,aJ (by rw [hhv];omega),rfl,rfl,aJ (by simp),trivial⟩ (qq5 _) rfl (ey _ _ _ _ _ _)⟩
   ·refine ⟨[eI _],⟨fun el hel=>by rw [List.mem_singleton.1 hel];rfl,rfl⟩,rfl,_,rfl,by simp,iT i,And.intro (by dsimp only [List.length];omega) (by dsimp only [List.length];omega),fun hn=>absurd hn (by simp),fun _=>?_⟩;repeat' first|refine u2 ?_|fail
    rw [decide_eq_false_iff_not] at h;rw [if_neg h] at hsh;refine ⟨i+1,hlt,(by dsimp only;omega),ai.to 1 (dU (by rw [hhv];omega)) ⟨rfl,rfl,rfl,rfl,aJ hsh.symm,aJ (by rw [hhv];omega),rfl,rfl,aJ (by simp),trivial⟩ (qq5 _) rfl (ey _ _ _ _ _ _)⟩
  ·rw [if_neg (show ¬ down≤(i:Int) by simpa using h3)] at hhv hsh;clear hq;have hu:0≤n * t.bp∧n * t.bp≤72:=by omega
   repeat' first |with_reducible (first|refine bQ ?_|refine bk ?_|refine wV ?_|refine aZ ?_)|refine u2 ?_|fail
   generalize n * t.bp=u at hhv hsh hu;refine ⟨_,hg,?_⟩;repeat' first |with_reducible (first|refine bQ ?_|refine bk ?_|refine bg ?_|refine aZ ?_)|refine u2 ?_|refine ⟨fun h=>?_,fun h=>?_⟩|fail
   ·refine ⟨[eI 0],⟨fun el hel=>by rw [List.mem_singleton.1 hel];rfl,rfl⟩,rfl,_,rfl,by simp,iT i,And.intro (by dsimp only [List.length];omega) (by dsimp only [List.length];omega),fun hn=>absurd hn (by simp),fun _=>?_⟩;repeat' first|refine u2 ?_|fail
    rw [decide_eq_true_eq] at h;rw [if_pos h] at hsh;refine ⟨i+1,hlt,(by dsimp only;omega),ai.to 1 (dU (by rw [hhv];omega)) ⟨rfl,rfl,rfl,rfl,aJ hsh.symm,aJ (by rw [hhv];omega),rfl,rfl,aJ (by simp),trivial⟩ (qq5 _) rfl (ey _ _ _ _ _ _)⟩
   ·refine ⟨[eI _],⟨fun el hel=>by rw [List.mem_singleton.1 hel];rfl,rfl⟩,rfl,_,rfl,by simp,iT i,And.intro (by dsimp only [List.length];omega) (by dsimp only [List.length];omega),fun hn=>absurd hn (by simp),fun _=>?_⟩;repeat' first|refine u2 ?_|fail
    rw [decide_eq_false_iff_not] at h;rw [if_neg h] at hsh;refine ⟨i+1,hlt,(by dsimp only;omega),ai.to 1 (dU (by rw [hhv];omega)) ⟨rfl,rfl,rfl,rfl,aJ hsh.symm,aJ (by rw [hhv];omega),rfl,rfl,aJ (by simp),trivial⟩ (qq5 _) rfl (ey _ _ _ _ _ _)⟩
 ·have hi:i=s.ax.length:=by rw [decide_eq_false_iff_not] at h2;omega
  subst hi
  skip
  exact ⟨[_,_],⟨EY _ _ _ _ _ _,Fz.deep rfl,trivial⟩,rfl⟩
end Go.Proofs.YtkappgolfkiaeaaGreatDoor.St
