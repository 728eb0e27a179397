/-
  Contracts of the program's functions and of the document's. Lemmas alone; their conditions stand in them.
-/
import Derived.Test.YtgdbfbalchdmcaaGreatK13
import Derived.IntWalk
open Go Go.RM
namespace Go.Proofs.YtgdbfbalchdmcaaGreat.St
set_option maxRecDepth 100000
def gx (k:Int) (l:List Int) (c:lE):List Int:=if c.kind=k then l.set c.day.toNat (l.getD c.day.toNat 0+c.cE) else l
def av (k:Int) (cs:List lE):List Int:=cs.foldl (gx k) (List.replicate 30 0)
theorem wB {k:Int} {l:List Int} {c:lE}:(gx k l c).length=l.length:=by
 unfold gx
 split <;> simp
theorem nB (k:Int) (cs:List lE) (c:lE):av k (cs++[c])=gx k (av k cs) c:=by
 simp [av]
structure jF (n:Nat) (l:List Int):Prop where
 len:l.length=30
 OJ:∀ x ∈ l,0≤x∧x≤300 * n
theorem jF.zero {k:Int}:jF 0 (av k []):=⟨by simp [av],fun x hx=>by simp [av] at hx;omega⟩
theorem jF.get {n:Nat} {l:List Int} (h:jF n l) {d:Nat} (hd:d < 30):0≤l.getD d 0∧l.getD d 0≤300 * n:=by
 have:d < l.length:=by rw [h.len];exact hd
 rw [List.getD_eq_getElem?_getD,List.getElem?_eq_getElem this]
 exact h.OJ _ (List.getElem_mem _)
theorem jF.add {n:Nat} {l:List Int} (h:jF n l) {k:Int} {c:lE} (hd:0≤c.day∧c.day < 30) (ha:0≤c.cE∧c.cE≤300):jF (n+1) (gx k l c):=by
 refine ⟨by rw [wB];exact h.len,fun x hx=>?_⟩
 unfold gx at hx
 split at hx
 ·rcases List.mem_or_eq_of_mem_set hx with hx|rfl
  ·have:=h.OJ x hx;omega
  ·have:=h.get (d:=c.day.toNat) (by omega);omega
 ·have:=h.OJ x hx;omega
theorem m9 {k:Int}:∀ {cs:List lE},(∀ c ∈ cs,(0≤c.day∧c.day < 30)∧0≤c.cE∧c.cE≤300)→jF cs.length (av k cs):=by
 intro cs h
 have key:∀ (cs:List lE) (l:List Int) (n:Nat),jF n l→(∀ c ∈ cs,(0≤c.day∧c.day < 30)∧0≤c.cE∧c.cE≤300)→jF (n+cs.length) (cs.foldl (gx k) l):=by
  intro cs
  induction cs with
  | nil=>intro l n h _;exact h
  | cons c cs ih =>
   intro l n h1 h2
   have:=ih _ (n+1) (h1.add (k:=k) (h2 c (by simp)).1 (h2 c (by simp)).2) (fun x hx=>h2 x (List.mem_cons_of_mem _ hx))
   rw [List.foldl_cons,List.length_cons,show n+(cs.length+1)=n+1+cs.length from by omega]
   exact this
 have:=key cs _ 0 (jF.zero (k:=k)) h
 rwa [Nat.zero_add] at this
noncomputable def yT:List AV:=match TT.ty.get 116 with|some ⟨_,_,_,some z,_,_,_⟩=>z.cells.toList.map .fl|_=>[]
abbrev eC (n:Int):AV:=ak n
def pP (s:aC) (k:Kind):List AV:=aF s++bD k
abbrev Lw:AV:=.fl (.slice none 0 0)
abbrev aL (s:aC) (k:Kind) (row:List Int) (c:AV):List AV:=pP s k++(row.map eC++[c])
theorem vX {n:Nat} {a b:List AV} (h:lP n a=true) (k:lP n b=true):lP n (a++b)=true:=by
 induction a with
 | nil=>exact k
 | cons x a ih =>
  simp only [lP,Bool.and_eq_true] at h
  simp only [List.cons_append,lP,Bool.and_eq_true]
  exact ⟨h.1,ih h.2⟩
theorem lV {a b:List AV} (h:bU a=true) (k:bU b=true):bU (a++b)=true:=by
 induction a with
 | nil=>exact k
 | cons x a ih =>
  simp only [bU,Bool.and_eq_true] at h
  simp only [List.cons_append,bU,Bool.and_eq_true]
  exact ⟨h.1,ih h.2⟩
theorem yU (l:List Int):bU (l.map eC)=true:=by
 induction l with
 | nil=>rfl
 | cons a l ih=>exact ih
theorem mG {s:aC} {k:Kind} {row:List Int} {c:AV} (h:c.deep=true):(AV.ag (aL s k row c)).deep=true :=
 lV rfl (lV (yU row) (by simp [bU,h]))
theorem eW {s:aC} {k:Kind} {row:List Int} {c:AV} (h:row.length=30):(aL s k row c).length=43:=by
 simp [aL,pP,h]
theorem DU {s:aC} {k:Kind} {row:List Int} {c:AV} {d:Nat} (h:d < row.length):(aL s k row c)[0+12+d * 1]?=some (ak (row.getD d 0)):=by
 rw [List.getElem?_append_right (by simp [pP]),List.getElem?_append_left (by simp [pP];omega),List.getElem?_map]
 have e:0+12+d * 1 - (pP s k).length=d:=by simp [pP]
 rw [e,List.getD_eq_getElem?_getD,List.getElem?_eq_getElem h]
 rfl
theorem rB {s:aC} {k:Kind} {row:List Int} {c:AV} (h:row.length=30):(aL s k row c)[0+42]?=some c:=by
 rw [List.getElem?_append_right (by simp [pP]),List.getElem?_append_right (by simp [pP,h])]
 have e:0+42 - (pP s k).length - (row.map eC).length=0:=by simp [pP,h]
 rw [e]
 rfl
theorem AF {s:aC} {k:Kind} {row:List Int} {c:AV} (h:row.length=30) (x:AV):dy (aL s k row c) [x] (0+42)=aL s k row x:=by
 have e:(pP s k).length=12:=by simp [pP]
 have h1:dy (aL s k row c) [x] (0+42)=(aL s k row c).set (0+42) x:=by
  rw [List.set_eq_take_append_cons_drop,if_pos (by simp [aL,pP];omega)]
  unfold dy
  simp
 rw [h1,List.set_append_right _ _ (by omega),List.set_append_right _ _ (by simp [e];omega),e,List.length_map,h]
 rfl
theorem JR {s:aC} {k:Kind} {row:List Int} {c:AV} {d:Nat} (h:d < row.length) (v:Int):dy (aL s k row c) [ak v] (0+12+d * 1)=aL s k (row.set d v) c:=by
 have e:(pP s k).length=12:=by simp [pP]
 have h1:dy (aL s k row c) [ak v] (0+12+d * 1)=(aL s k row c).set (0+12+d * 1) (ak v):=by
  rw [List.set_eq_take_append_cons_drop,if_pos (by simp [aL,pP];omega)]
  unfold dy
  simp
 rw [h1,List.set_append_right _ _ (by omega),List.set_append_left _ _ (by simp [e];omega),e,show 0+12+d * 1 - 12=d from by omega]
 show _=pP s k++((row.set d v).map eC++[c])
 rw [List.map_set]
theorem qD {s:aC} {k:Kind} {row:List Int} {c:AV} {n:Nat} (h:c.gM n=true):([.cells yT 0 0,.cells (aL s k row c) 0 0]:List AB).all (AB.gM n)=true:=by
 have e:lP n (aL s k row c)=true:=by
  refine vX rfl (vX ?_ (by simp [lP,h]))
  induction row with
  | nil=>rfl
  | cons a l ih=>exact ih
 simp only [List.all_cons,AB.gM,e,List.all_nil,Bool.and_true]
 rfl
def yV:List Count→List AB
 | []=>[]
 | c :: l=>[.cells (aM c) 0 0,.cells ((c :: l).map aM).flatten 4 l.length]
def pg:List Count→AV
 | []=>Lw
 | _ :: l=>.dM 3 l.length 0 (l.length+1) (l.length+2)
theorem B5 (l:List Count):bU (l.map aM).flatten=true:=by
 induction l with
 | nil=>rfl
 | cons a l ih=>exact ih
theorem ld (l:List Count):(l.map aM).flatten.length=l.length * 4:=by
 induction l with
 | nil=>rfl
 | cons a l ih =>
  simp only [List.map_cons,List.flatten_cons,List.length_append,ih,List.length_cons,List.length_nil]
  omega
theorem DV (n:Nat) (l:List Count):lP n (l.map aM).flatten=true:=by
 induction l with
 | nil=>rfl
 | cons a l ih=>exact ih
theorem JS (n:Nat) (f:List Count):(yV f).all (AB.gM n)=true:=by
 cases f with
 | nil=>rfl
 | cons c l =>
  simp only [yV,List.all_cons,AB.gM,DV,List.all_nil,Bool.and_true]
  rfl
theorem Fz.M8 {hp:List AB} {l:List AV} {x y:AV} (hl:bU l=true) (h:Fz hp x y):Fz hp (.ag (l++[x])) (.ag (l++[y])):=by
 refine Fz.ag (by simp) (fun i a b ha hb=>?_)
 by_cases hi:i < l.length
 ·rw [List.getElem?_append_left hi] at ha hb
  rw [ha] at hb
  cases hb
  exact Fz.deep (iz hl i a ha)
 ·rw [List.getElem?_append_right (by omega)] at ha hb
  cases hii:i - l.length with
  | zero=>rw [hii] at ha hb;cases ha;cases hb;exact h
  | succ n=>rw [hii] at ha;cases ha
theorem M9 (a b:AB) (f:List Count):Fz (a :: b :: yV f) (pg f) (.sl (f.map aM) false):=by
 cases f with
 | nil=>exact Fz.nil
 | cons c l=>exact Fz.row (es:=4) rfl (by rw [ld];simp) (by simp) (fun el hel=>by obtain ⟨x,_,rfl⟩:=List.mem_map.1 hel;rfl) (by rw [List.drop_zero,List.take_of_length_le (by rw [ld];simp)]) (B5 _) (fun h=>Bool.noConfusion h)
theorem Fv {s:aC} {k:Kind} {row:List Int} {f:List Count}:(.cells yT 0 0 :: .cells (aL s k row (pg f)) 0 0 :: yV f:List AB).all (AB.gM 4)=true:=by
 have h:=qD (s:=s) (k:=k) (row:=row) (c:=pg f) (n:=4) (by cases f <;> rfl)
 simp only [List.all_cons,List.all_nil,Bool.and_true,Bool.and_eq_true] at h ⊢
 exact ⟨h.1,h.2,JS 4 f⟩
theorem HE (c0 c:Count) (f:List Count):pg (c0 :: (f++[c]))=.dM 3 (f.length+1) 0 (f.length+1+1) (f.length+1+1+1):=by simp [pg]
theorem HF (c0 c:Count) (f:List Count):yV (c0 :: (f++[c]))=[.cells (aM c0) 0 0,.cells (((c0 :: f).map aM).flatten++[aM c].flatten) 4 (f.length+1)]:=by simp [yV]
theorem nZ {s:aC} {k:Kind} {row:List Int} {c:AV} (h:row.length=30):List.take 43 (List.drop 0 (aL s k row c))=aL s k row c:=by
 rw [List.drop_zero,List.take_of_length_le (by rw [eW h];omega)]
theorem JT {s:aC} {k:Kind} {row:List Int} {f:List Count}:(AV.ag (aL s k row (pg f))).cells.all AV.one=true:=by
 show (aL s k row (pg f)).all AV.one=true
 have h1:(row.map eC).all AV.one=true:=by
  induction row with
  | nil=>rfl
  | cons a l ih=>exact ih
 rw [List.all_append,List.all_append,h1]
 cases f <;> rfl
theorem Lx {s:aC} {k:Kind} {row:List Int} {f:List Count} {a b:AB}:Fz (a :: b :: yV f) (.ag (aL s k row (pg f))) (.ag (aL s k row (.sl (f.map aM) false))):=by
 have h:∀ c:AV,aL s k row c=(pP s k++row.map eC)++[c]:=fun c=>by simp [aL]
 rw [h,h]
 exact Fz.M8 (lV rfl (yU row)) (M9 a b f)
theorem BV (one:Bool) (s:aC) (counts:List Count) (full:Bool) (i:Nat) (hi:i < s.kinds.length) (hc:∀ c ∈ s.ai,(0≤c.day∧c.day < 30)∧0≤c.cE∧c.cE≤300) (hl:s.ai.length≤9) (hn:counts.length≤1000) :
  Pu one 55 [.ag (aF s),.sl (counts.map aM) full,ak i] (.ag (aL s s.kinds[i] (av i s.ai) (.sl ((counts.filter (fun c=>decide (c.kind=(i:Int)))).map aM) false))):=by
 have ec:((s.ai.map cr).length:Int)=s.ai.length:=by simp
 have en:((counts.map aM).length:Int)=counts.length:=by simp
 refine af.body (fn:=Tryz.f55) rfl rfl rfl (mG rfl) ?_
 refine aa (mu:=fun t=>Nat.beq t 55) ?_
 repeat' (first |with_reducible (first|refine bl ?_|refine bg ?_) |refine u2 ?_ |refine ⟨bD s.kinds[i],⟨by omega,bP hi⟩,rfl,?_⟩ |fail)
 repeat' (first |with_reducible (first|refine bl ?_|refine bg ?_|refine bf ?_) |refine u2 ?_ |fail)
 refine aG.aU (aj.to (l:=[(1,.sl (counts.map aM) full),(2,ak i),(6,.ptr 0 0 0),(7,.ptr 1 0 0),(20,.sl (s.ai.map cr) false),(21,ak s.ai.length),(22,ak ((0:Nat):Int))]) (hp:=[.cells yT 0 0,.cells (aL s s.kinds[i] (av i (s.ai.take 0)) Lw) 0 0]) 2 rfl ⟨rfl,rfl,rfl,rfl,rfl,aJ ec,rfl,trivial⟩ (Nat.zero_le _) rfl rfl) ?_
 refine aG.loop (fun j:Nat=>j≤s.ai.length) (fun j=>⟨bT [(1,.sl (counts.map aM) full),(2,ak i),(6,.ptr 0 0 0),(7,.ptr 1 0 0),(20,.sl (s.ai.map cr) false),(21,ak s.ai.length),(22,ak (j:Int))],[.cells yT 0 0,.cells (aL s s.kinds[i] (av i (s.ai.take j)) Lw) 0 0],bW.none,false,0⟩) (fun j=>s.ai.length - j) ?_ 0 (Nat.zero_le _)
 intro j hj
 have hrow:jF (s.ai.take j).length (av i (s.ai.take j)):=m9 fun c hx=>hc c (List.mem_of_mem_take hx)
 have hrl:(s.ai.take j).length=j:=by simp;omega
 rw [hrl] at hrow
 refine aa (mu:=fun t=>Nat.beq t 55) ?_
 repeat' (first |with_reducible (first|refine bl ?_|refine bg ?_) |fail)
 refine ⟨fun h=>?_,fun h=>?_⟩
 ·have hlt:j < s.ai.length:=by simpa only [decide_eq_true_eq,Int.ofNat_lt] using h
  have hcj:=hc s.ai[j] (List.getElem_mem hlt)
  have hrow':av i (s.ai.take (j+1))=gx i (av i (s.ai.take j)) s.ai[j]:=by
   rw [List.take_add_one,List.getElem?_eq_getElem hlt]
   exact nB _ _ _
  generalize av i (s.ai.take j)=row at hrow hrow' ⊢
  have hg:=hrow.get (d:=s.ai[j].day.toNat) (by omega)
  repeat' (first |with_reducible (first|refine bZ ?_|refine bl ?_|refine fN ?_|refine bg ?_|refine bf ?_) |refine u2 ?_ |refine ⟨cr s.ai[j],⟨by omega,bP hlt⟩,rfl,?_⟩ |fail)
  refine ⟨fun h2=>?_,fun h2=>?_⟩
  ·have hd:s.ai[j].day.toNat < row.length:=by rw [hrow.len];omega
   repeat' (first |with_reducible refine yh ?_ |refine u2 ?_ |refine ⟨_,_,rfl,ak (row.getD s.ai[j].day.toNat 0),DU hd,?_⟩ |(refine ⟨_,_,rfl,rfl,rfl,rfl,by rw [eW hrow.len];omega,?_⟩) |fail)
   have h2:s.ai[j].kind=(i:Int):=by simpa using h2
   refine ⟨j+1,hlt,(by dsimp only;omega),aj.to 2 ?_ ⟨rfl,rfl,rfl,rfl,rfl,rfl,aJ (by simp),trivial⟩ (Nat.zero_le _) rfl (qD rfl)⟩
   rw [hrow',gx,if_pos h2,←JR hd]
   rfl
  ·have h2:¬ s.ai[j].kind=(i:Int):=by simpa using h2
   repeat' (first |with_reducible refine bZ ?_ |refine u2 ?_ |fail)
   refine ⟨j+1,hlt,(by dsimp only;omega),aj.to 2 ?_ ⟨rfl,rfl,rfl,rfl,rfl,rfl,aJ (by simp),trivial⟩ (Nat.zero_le _) rfl (qD rfl)⟩
   rw [hrow',gx,if_neg h2]
   rfl
 ·have hj:s.ai.take j=s.ai:=List.take_of_length_le (by simp only [decide_eq_false_iff_not] at h;omega)
  rw [hj] at hrow ⊢
  generalize av i s.ai=row at hrow ⊢
  have h30:=hrow.len
  clear hrow
  skip
  refine aG.aU (aj.to (l:=[(2,ak i),(6,.ptr 0 0 0),(7,.ptr 1 0 0),(41,.sl (counts.map aM) full),(42,ak counts.length),(43,ak ((0:Nat):Int))]) (hp:=.cells yT 0 0 :: .cells (aL s s.kinds[i] row (pg [])) 0 0 :: yV []) 2 rfl ⟨rfl,rfl,rfl,rfl,aJ en,rfl,trivial⟩ (Nat.zero_le _) rfl (qD rfl)) ?_
  refine aG.loop (fun x:Nat × List Count=>x.1≤counts.length∧x.2=(counts.take x.1).filter (fun c=>decide (c.kind=(i:Int)))) (fun x=>⟨bT [(2,ak i),(6,.ptr 0 0 0),(7,.ptr 1 0 0),(41,.sl (counts.map aM) full),(42,ak counts.length),(43,ak (x.1:Int))],.cells yT 0 0 :: .cells (aL s s.kinds[i] row (pg x.2)) 0 0 :: yV x.2,bW.none,false,0⟩) (fun x=>counts.length - x.1) ?_ (0,[]) ⟨Nat.zero_le _,rfl⟩
  intro ⟨m,f⟩ ⟨hm,hf⟩
  refine aa (mu:=fun t=>Nat.beq t 55) ?_
  repeat' (first |with_reducible (first|refine bl ?_|refine bg ?_) |fail)
  refine ⟨fun h=>?_,fun h=>?_⟩
  ·have hlt:m < counts.length:=by simpa only [decide_eq_true_eq,Int.ofNat_lt] using h
   have hft:(counts.take (m+1)).filter (fun c=>decide (c.kind=(i:Int)))=f++(if counts[m].kind=(i:Int) then [counts[m]] else []):=by
    rw [List.take_add_one,List.getElem?_eq_getElem hlt,List.filter_append,←hf]
    by_cases hk:counts[m].kind=(i:Int)
    ·simp [hk]
    ·simp [hk]
   cases f with
   | nil =>
    repeat' (first |with_reducible (first|refine bZ ?_|refine bl ?_|refine fN ?_|refine bg ?_|refine bf ?_) |refine u2 ?_ |refine ⟨aM counts[m],⟨by omega,bP hlt⟩,rfl,?_⟩ |fail)
    refine ⟨fun h2=>?_,fun h2=>?_⟩
    ·have h2:counts[m].kind=(i:Int):=by simpa using h2
     repeat' (first |with_reducible refine bg ?_ |refine u2 ?_ |refine ⟨_,_,rfl,_,rB h30,?_⟩ |fail)
     refine ⟨[aM counts[m]],⟨fun el hel=>by rw [List.mem_singleton.1 hel];rfl,rfl⟩,rfl,And.intro (Nat.le_of_ble_eq_true rfl) (Nat.le_of_ble_eq_true rfl),fun hn=>absurd hn (by simp),fun _=>?_⟩
     repeat' (first |refine u2 ?_ |(refine ⟨_,_,rfl,rfl,rfl,rfl,by rw [eW h30];omega,?_⟩) |fail)
     refine ⟨(m+1,[counts[m]]),⟨hlt,by rw [hft,if_pos h2];rfl⟩,(by dsimp only;omega),aj.to 4 ?_ ⟨rfl,rfl,rfl,rfl,rfl,aJ (by simp),trivial⟩ (Nat.zero_le _) rfl ?_⟩
     ·show _=AB.cells yT 0 0 :: AB.cells (aL s s.kinds[i] row (pg [counts[m]])) 0 0 :: yV [counts[m]]
      rw [←AF (c:=Lw) h30 (pg [counts[m]])]
      rfl
     ·exact Fv
    ·have h2:¬ counts[m].kind=(i:Int):=by simpa using h2
     repeat' (first |with_reducible refine bZ ?_ |refine u2 ?_ |fail)
     refine ⟨(m+1,[]),⟨hlt,by rw [hft,if_neg h2];rfl⟩,(by dsimp only;omega),aj.to 2 rfl ⟨rfl,rfl,rfl,rfl,rfl,aJ (by simp),trivial⟩ (Nat.zero_le _) rfl (qD rfl)⟩
   | cons c0 f =>
    have hfl:f.length+1≤1000:=by
     have:((counts.take m).filter (fun c=>decide (c.kind=(i:Int)))).length≤counts.length:=Nat.le_trans (List.length_filter_le _ _) (by simp;omega)
     rw [←hf] at this
     simpa using Nat.le_trans this hn
    repeat' (first |with_reducible (first|refine bZ ?_|refine bl ?_|refine fN ?_|refine bg ?_|refine bf ?_) |refine u2 ?_ |refine ⟨aM counts[m],⟨by omega,bP hlt⟩,rfl,?_⟩ |fail)
    refine ⟨fun h2=>?_,fun h2=>?_⟩
    ·have h2:counts[m].kind=(i:Int):=by simpa using h2
     repeat' (first |with_reducible refine bg ?_ |refine u2 ?_ |refine ⟨_,_,rfl,_,rB h30,?_⟩ |fail)
     refine ⟨[aM counts[m]],⟨fun el hel=>by rw [List.mem_singleton.1 hel];rfl,rfl⟩,rfl,.inl ⟨rfl,_,rfl,ld (c0 :: f),Or.inr rfl,And.intro (by dsimp only [List.length];omega) (by dsimp only [List.length];omega),fun hn=>absurd hn (by simp),fun _=>?_⟩⟩
     repeat' (first |refine u2 ?_ |(refine ⟨_,_,rfl,rfl,rfl,rfl,by rw [eW h30];omega,?_⟩) |fail)
     refine ⟨(m+1,c0 :: (f++[counts[m]])),⟨hlt,by rw [hft,if_pos h2];rfl⟩,(by dsimp only;omega),aj.to 4 ?_ ⟨rfl,rfl,rfl,rfl,rfl,aJ (by simp),trivial⟩ (Nat.zero_le _) rfl Fv⟩
     show _=AB.cells yT 0 0 :: AB.cells (aL s s.kinds[i] row (pg (c0 :: (f++[counts[m]])))) 0 0 :: yV (c0 :: (f++[counts[m]]))
     rw [←AF (c:=pg (c0 :: f)) h30 (pg (c0 :: (f++[counts[m]]))),HE,HF]
     rfl
    ·have h2:¬ counts[m].kind=(i:Int):=by simpa using h2
     repeat' (first |with_reducible refine bZ ?_ |refine u2 ?_ |fail)
     refine ⟨(m+1,c0 :: f),⟨hlt,by rw [hft,if_neg h2,List.append_nil]⟩,(by dsimp only;omega),aj.to 4 rfl ⟨rfl,rfl,rfl,rfl,rfl,aJ (by simp),trivial⟩ (Nat.zero_le _) rfl Fv⟩
  ·have hm:counts.take m=counts:=List.take_of_length_le (by simp only [decide_eq_false_iff_not] at h;omega)
   rw [hm] at hf
   simp only at hf
   subst hf
   generalize hF:counts.filter (fun c=>decide (c.kind=(i:Int)))=f
   repeat' (first |(refine ⟨_,_,rfl,by rw [eW h30];omega,?_⟩) |fail)
   rw [nZ h30]
   repeat' (first |(refine ⟨_,_,rfl,rfl,JT,eW h30,Nat.le_of_ble_eq_true rfl,?_⟩) |fail)
   have e:dy yT (AV.ag (aL s s.kinds[i] row (pg f))).cells 0=aL s s.kinds[i] row (pg f):=by
    show []++(aL s s.kinds[i] row (pg f))++yT.drop (0+(aL s s.kinds[i] row (pg f)).length)=_
    rw [eW h30,show yT.drop (0+43)=[] from rfl,List.nil_append,List.append_nil]
   rw [e]
   refine ⟨_,_,rfl,by rw [eW h30];omega,?_⟩
   rw [nZ h30]
   exact ⟨[_],⟨Lx,trivial⟩,rfl⟩
end Go.Proofs.YtgdbfbalchdmcaaGreat.St
open Go Go.RM
namespace Go.Proofs.YtgdbfbalchdmcaaGreat.St
set_option maxRecDepth 100000
def qE (k:Kind) (t:aN) (down:Int) (i:Nat) (n:Int):Int:=if down≤i then (n * t.aR * k.dK+1000 - 1) / 1000 else n * t.aR
def kR (ah:List Int) (k:Kind) (row:List Int) (t:aN) (down:Int) (i:Nat) (have_:Int):Int :=
 max have_ (min (have_+row.getD i 0) k.room) - qE k t down i (ah.getD i 0) - t.ay
def bu (ah:List Int) (k:Kind) (row:List Int) (t:aN) (down:Int):Nat→Int
 | 0=>t.first
 | i+1=>max 0 (kR ah k row t down i (bu ah k row t down i))
def ck (ah:List Int) (k:Kind) (row:List Int) (t:aN) (down:Int):Nat→Int
 | 0=>ah.length
 | i+1=>if kR ah k row t down i (bu ah k row t down i) < 0 then min (ck ah k row t down i) i else ck ah k row t down i
structure iE (ah:List Int) (k:Kind) (row:List Int) (t:aN):Prop where
 DW:ah.length≤30
 ah:∀ n ∈ ah,0≤n∧n≤12
 row:jF 9 row
 room:0≤k.room∧k.room≤300
 dK:0≤k.dK∧k.dK≤1000
 first:0≤t.first∧t.first≤300
 aR:0≤t.aR∧t.aR≤6
 ay:0≤t.ay∧t.ay≤12
theorem iE.n {ah:List Int} {k:Kind} {row:List Int} {t:aN} (h:iE ah k row t) {i:Nat} (hi:i < ah.length):0≤ah.getD i 0∧ah.getD i 0≤12:=by
 rw [List.getD_eq_getElem?_getD,List.getElem?_eq_getElem hi]
 exact h.ah _ (List.getElem_mem _)
theorem nc {a b A B:Int} (ha:0≤a∧a≤A) (hb:0≤b∧b≤B):0≤a * b∧a * b≤A * B :=
 ⟨Int.mul_nonneg ha.1 hb.1,Int.mul_le_mul ha.2 hb.2 hb.1 (by omega)⟩
theorem iE.O3 {ah:List Int} {k:Kind} {row:List Int} {t:aN} (h:iE ah k row t) (down:Int) {i:Nat} (hi:i < ah.length):0≤qE k t down i (ah.getD i 0)∧qE k t down i (ah.getD i 0)≤72:=by
 have h1:=nc (h.n hi) h.aR
 have h2:=nc h1 h.dK
 unfold qE
 split <;> omega
theorem iE.AG {ah:List Int} {k:Kind} {row:List Int} {t:aN} (h:iE ah k row t) (down:Int):∀ i,i≤ah.length→0≤bu ah k row t down i∧bu ah k row t down i≤300
 | 0,_=>h.first
 | i+1,hi=>by
  have ih:=h.AG down i (by omega)
  have h1:=h.O3 down (i:=i) (by omega)
  have h2:=h.row.get (d:=i) (by have:=h.DW;omega)
  have h3:=h.room
  have h4:=h.ay
  simp only [bu,kR]
  omega
theorem AH (ah:List Int) (k:Kind) (row:List Int) (t:aN) (down:Int) (i:Nat):bu ah k row t down (i+1)=max 0 (max (bu ah k row t down i) (min (bu ah k row t down i+row.getD i 0) k.room) - (if down≤i then (ah.getD i 0 * t.aR * k.dK+1000 - 1) / 1000 else ah.getD i 0 * t.aR) - t.ay):=rfl
theorem yW (ah:List Int) (k:Kind) (row:List Int) (t:aN) (down:Int) (i:Nat):ck ah k row t down (i+1)=if max (bu ah k row t down i) (min (bu ah k row t down i+row.getD i 0) k.room) - (if down≤i then (ah.getD i 0 * t.aR * k.dK+1000 - 1) / 1000 else ah.getD i 0 * t.aR) - t.ay < 0 then min (ck ah k row t down i) i else ck ah k row t down i:=rfl
def B6:Nat→Nat
 | 0=>1
 | k+1=>k+3
abbrev wC (ah:List Int) (k:Kind) (row:List Int) (t:aN) (down:Int) (n:Nat):AB:=.cells ((List.range (n+1)).map fun i=>ak (bu ah k row t down i)) 1 n
theorem l7 {s:aC} {k:Kind} {row:List Int} {f:List (List AV)} {b:Bool}:(AV.ag (aL s k row (.sl f b))).cells.all AV.one=true:=by
 show (aL s k row (.sl f b)).all AV.one=true
 have h1:(row.map eC).all AV.one=true:=by
  induction row with
  | nil=>rfl
  | cons a l ih=>exact ih
 rw [List.all_append,List.all_append,h1]
 rfl
theorem pq {s:aC} {k:Kind} {row:List Int} {f:List (List AV)} {b:Bool}:bU (AV.ag (aL s k row (.sl f b))).cells=true:=mG rfl
theorem jG (i:Nat):B6 i=i+1∨B6 i=i+1+1:=by
 cases i <;> simp [B6]
theorem eL {ah:List Int} {k:Kind} {row:List Int} {t:aN} {down:Int} {i:Nat} {v:Int} (h:bu ah k row t down (i+1)=v) :
  [AB.cells (((List.range (i+1)).map fun i=>ak (bu ah k row t down i))++[eI v].flatten) 1 (i+1)]=[wC ah k row t down (i+1)]:=by
 rw [wC,List.range_succ (n:=i+1),List.map_append,List.map_cons,h]
 rfl
theorem DX {α:Type} {f:α→AV} {n:Nat} (h:∀ a,(f a).gM n=true):∀ l:List α,lP n (l.map f)=true
 | []=>rfl
 | a :: l=>by simp only [List.map_cons,lP,h a,DX h l,Bool.and_true]
theorem AJ {α:Type} {f:α→AV} (h:∀ a,(f a).deep=true):∀ l:List α,bU (l.map f)=true
 | []=>rfl
 | a :: l=>by simp only [List.map_cons,bU,h a,AJ h l,Bool.and_true]
theorem vb {α:Type} {f:α→AV}:∀ l:List α,(l.map fun a=>[f a]).flatten=l.map f
 | []=>rfl
 | a :: l=>by simp only [List.map_cons,List.flatten_cons,vb l];rfl
theorem eY (ah:List Int) (k:Kind) (row:List Int) (t:aN) (down:Int) (i:Nat):([wC ah k row t down i]:List AB).all (AB.gM 1)=true:=by
 simp only [List.all_cons,List.all_nil,Bool.and_true,AB.gM]
 exact DX (fun _=>rfl) _
theorem Fw (ah:List Int) (k:Kind) (row:List Int) (t:aN) (down:Int) (i:Nat):Fz [wC ah k row t down i] (.dM 0 i 0 (i+1) (B6 i)) (.sl ((List.range (i+1)).map fun i=>eI (bu ah k row t down i)) false) :=
 Fz.row (es:=1) rfl (by simp) (by simp) (fun el hel=>by obtain ⟨x,_,rfl⟩:=List.mem_map.1 hel;rfl) (by rw [vb (f:=fun i=>ak (bu ah k row t down i)),List.drop_zero,List.take_of_length_le (by simp)]) (by rw [vb (f:=fun i=>ak (bu ah k row t down i))];exact AJ (fun _=>rfl) _) (fun h=>Bool.noConfusion h)
theorem Mg (one:Bool) (s:aC) (k:Kind) (row:List Int) (cnts:List (List AV)) (t:aN) (down:Int) (h:iE s.ah k row t) :
  Pu one 56 [.ag (aL s k row (.sl cnts false)),.ag (dg t),ak down] (.tp [.sl ((List.range (s.ah.length+1)).map fun i=>eI (bu s.ah k row t down i)) false,ak (ck s.ah k row t down s.ah.length)]):=by
 have em:((s.ah.map eI).length:Int)=s.ah.length:=by simp
 refine af.body (fn:=Tryz.f56) rfl rfl rfl rfl ?_
 refine aa (mu:=fun t=>Nat.beq t 69 || Nat.beq t 15) ?_
 refine ⟨rfl,l7,pq,?_⟩
 repeat' (first |with_reducible (first|refine bl ?_|refine bg ?_|refine bf ?_) |refine u2 ?_ |fail)
 refine aG.aU (aj.to (l:=[(2,ak down),(3,.pt (aL s k row (.sl cnts false)) 0),(4,.pt (dg t) 0),(6,.dM 0 0 0 1 1),(7,ak s.ah.length),(8,ak t.first),(22,.sl (s.ah.map eI) false),(23,ak s.ah.length),(24,ak ((0:Nat):Int))]) (hp:=[wC s.ah k row t down 0]) 1 rfl ⟨rfl,rfl,rfl,rfl,aJ em,rfl,rfl,aJ em,rfl,trivial⟩ (Nat.zero_le _) rfl rfl) ?_
 refine aG.loop (fun i:Nat=>i≤s.ah.length) (fun i=>⟨bT [(2,ak down),(3,.pt (aL s k row (.sl cnts false)) 0),(4,.pt (dg t) 0),(6,.dM 0 i 0 (i+1) (B6 i)),(7,ak (ck s.ah k row t down i)),(8,ak (bu s.ah k row t down i)),(22,.sl (s.ah.map eI) false),(23,ak s.ah.length),(24,ak (i:Int))],[wC s.ah k row t down i],bW.none,false,0⟩) (fun i=>s.ah.length - i) ?_ 0 (Nat.zero_le _)
 intro i hi
 refine aa (mu:=fun t=>Nat.beq t 69 || Nat.beq t 15) ?_
 repeat' (first |with_reducible (first|refine bl ?_|refine bg ?_) |fail)
 refine ⟨fun h2=>?_,fun h2=>?_⟩
 ·have hlt:i < s.ah.length:=by simpa only [decide_eq_true_eq,Int.ofNat_lt] using h2
  have b1:=h.n hlt
  have b2:=nc b1 h.aR
  have b3:=nc b2 h.dK
  have b4:=h.AG down i hi
  have b5:=h.row.get (d:=i) (by have:=h.DW;omega)
  have b6:=h.room
  have b7:=h.ay
  have hget:s.ah[i]=s.ah.getD i 0:=by rw [List.getD_eq_getElem?_getD,List.getElem?_eq_getElem hlt];rfl
  have hhv:=AH s.ah k row t down i
  have hsh:=yW s.ah k row t down i
  rw [←hget] at b1 b2 b3 hhv hsh
  repeat' (first |with_reducible (first|refine bZ ?_|refine bl ?_|refine fN ?_|refine bg ?_|refine bf ?_) |refine u2 ?_ |refine ⟨eI s.ah[i],⟨by omega,bP hlt⟩,rfl,?_⟩ |fail)
  generalize s.ah[i]=n at b1 b2 b3 hhv hsh
  generalize bu s.ah k row t down i=hv at b4 hhv hsh
  have b8:=h.DW
  have hd:i < row.length:=by rw [h.row.len];omega
  have hg:(aL s k row (.sl cnts false))[0+12+(i:Int).toNat * 1]?=some (ak (row.getD i 0)):=DU (d:=i) hd
  have hq:IntKind.i64.wrap ((n * t.aR * k.dK+1000 - 1).tdiv 1000)=(n * t.aR * k.dK+1000 - 1) / 1000:=IntWalk.i64_quo _ 1000 (by omega)
  skip
  refine ⟨fun h3=>?_,fun h3=>?_⟩
  ·rw [if_pos (show down≤(i:Int) by simpa using h3)] at hhv hsh
   repeat' (first |with_reducible refine bg ?_ |refine u2 ?_ |fail)
   rw [hq]
   have hu:0≤(n * t.aR * k.dK+1000 - 1) / 1000∧(n * t.aR * k.dK+1000 - 1) / 1000≤72:=by omega
   generalize (n * t.aR * k.dK+1000 - 1) / 1000=u at hhv hsh hu
   refine ⟨_,hg,?_⟩
   repeat' (first |with_reducible (first|refine bZ ?_|refine bl ?_|refine bg ?_|refine bf ?_) |refine u2 ?_ |refine ⟨fun h=>?_,fun h=>?_⟩ |fail)
   ·refine ⟨[eI 0],⟨fun el hel=>by rw [List.mem_singleton.1 hel];rfl,rfl⟩,rfl,.inl ⟨rfl,_,rfl,by simp,jG i,And.intro (by dsimp only [List.length];omega) (by dsimp only [List.length];omega),fun hn=>absurd hn (by simp),fun _=>?_⟩⟩
    repeat' (first |refine u2 ?_ |fail)
    rw [decide_eq_true_eq] at h
    rw [if_pos h] at hsh
    refine ⟨i+1,hlt,(by dsimp only;omega),aj.to 1 (eL (by rw [hhv];omega)) ⟨rfl,rfl,rfl,rfl,aJ hsh.symm,aJ (by rw [hhv];omega),rfl,rfl,aJ (by simp),trivial⟩ (Nat.zero_le _) rfl (eY _ _ _ _ _ _)⟩
   ·refine ⟨[eI _],⟨fun el hel=>by rw [List.mem_singleton.1 hel];rfl,rfl⟩,rfl,.inl ⟨rfl,_,rfl,by simp,jG i,And.intro (by dsimp only [List.length];omega) (by dsimp only [List.length];omega),fun hn=>absurd hn (by simp),fun _=>?_⟩⟩
    repeat' (first |refine u2 ?_ |fail)
    rw [decide_eq_false_iff_not] at h
    rw [if_neg h] at hsh
    refine ⟨i+1,hlt,(by dsimp only;omega),aj.to 1 (eL (by rw [hhv];omega)) ⟨rfl,rfl,rfl,rfl,aJ hsh.symm,aJ (by rw [hhv];omega),rfl,rfl,aJ (by simp),trivial⟩ (Nat.zero_le _) rfl (eY _ _ _ _ _ _)⟩
  ·rw [if_neg (show ¬ down≤(i:Int) by simpa using h3)] at hhv hsh
   clear hq
   have hu:0≤n * t.aR∧n * t.aR≤72:=by omega
   repeat' (first |with_reducible (first|refine bZ ?_|refine bl ?_|refine yh ?_|refine bf ?_) |refine u2 ?_ |fail)
   generalize n * t.aR=u at hhv hsh hu
   refine ⟨_,hg,?_⟩
   repeat' (first |with_reducible (first|refine bZ ?_|refine bl ?_|refine bg ?_|refine bf ?_) |refine u2 ?_ |refine ⟨fun h=>?_,fun h=>?_⟩ |fail)
   ·refine ⟨[eI 0],⟨fun el hel=>by rw [List.mem_singleton.1 hel];rfl,rfl⟩,rfl,.inl ⟨rfl,_,rfl,by simp,jG i,And.intro (by dsimp only [List.length];omega) (by dsimp only [List.length];omega),fun hn=>absurd hn (by simp),fun _=>?_⟩⟩
    repeat' (first |refine u2 ?_ |fail)
    rw [decide_eq_true_eq] at h
    rw [if_pos h] at hsh
    refine ⟨i+1,hlt,(by dsimp only;omega),aj.to 1 (eL (by rw [hhv];omega)) ⟨rfl,rfl,rfl,rfl,aJ hsh.symm,aJ (by rw [hhv];omega),rfl,rfl,aJ (by simp),trivial⟩ (Nat.zero_le _) rfl (eY _ _ _ _ _ _)⟩
   ·refine ⟨[eI _],⟨fun el hel=>by rw [List.mem_singleton.1 hel];rfl,rfl⟩,rfl,.inl ⟨rfl,_,rfl,by simp,jG i,And.intro (by dsimp only [List.length];omega) (by dsimp only [List.length];omega),fun hn=>absurd hn (by simp),fun _=>?_⟩⟩
    repeat' (first |refine u2 ?_ |fail)
    rw [decide_eq_false_iff_not] at h
    rw [if_neg h] at hsh
    refine ⟨i+1,hlt,(by dsimp only;omega),aj.to 1 (eL (by rw [hhv];omega)) ⟨rfl,rfl,rfl,rfl,aJ hsh.symm,aJ (by rw [hhv];omega),rfl,rfl,aJ (by simp),trivial⟩ (Nat.zero_le _) rfl (eY _ _ _ _ _ _)⟩
 ·have hi:i=s.ah.length:=by rw [decide_eq_false_iff_not] at h2;omega
  subst hi
  skip
  exact ⟨[_,_],⟨Fw _ _ _ _ _ _,Fz.deep rfl,trivial⟩,rfl⟩
end Go.Proofs.YtgdbfbalchdmcaaGreat.St
