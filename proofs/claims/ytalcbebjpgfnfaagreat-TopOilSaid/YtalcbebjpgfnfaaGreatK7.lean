/-
  Contracts of the program's functions and of the document's. Lemmas alone; their conditions stand in them.
-/
import Derived.Test.YtalcbebjpgfnfaaGreatK6
import Derived.IntWalk
open Go Go.RM
namespace Go.Proofs.YtalcbebjpgfnfaaGreat.St
set_option maxRecDepth 100000
def fL (k:Int) (l:List Int) (c:iC):List Int:=if c.kind=k then l.set c.day.toNat (l.getD c.day.toNat 0+c.cz) else l
def ak (k:Int) (cs:List iC):List Int:=cs.foldl (fL k) (List.replicate 30 0)
theorem vt {k:Int} {l:List Int} {c:iC}:(fL k l c).length=l.length:=by
 unfold fL
 split <;> simp
theorem jE (k:Int) (cs:List iC) (c:iC):ak k (cs++[c])=fL k (ak k cs) c:=by
 simp [ak]
structure gA (n:Nat) (l:List Int):Prop where
 len:l.length=30
 Ka:∀ x ∈ l,0≤x∧x≤300 * n
theorem gA.zero {k:Int}:gA 0 (ak k []):=⟨by simp [ak],fun x hx=>by simp [ak] at hx;omega⟩
theorem gA.get {n:Nat} {l:List Int} (h:gA n l) {d:Nat} (hd:d < 30):0≤l.getD d 0∧l.getD d 0≤300 * n:=by
 have:d < l.length:=by rw [h.len];exact hd
 rw [List.getD_eq_getElem?_getD,List.getElem?_eq_getElem this]
 exact h.Ka _ (List.getElem_mem _)
theorem gA.add {n:Nat} {l:List Int} (h:gA n l) {k:Int} {c:iC} (hd:0≤c.day∧c.day < 30) (ha:0≤c.cz∧c.cz≤300):gA (n+1) (fL k l c):=by
 refine ⟨by rw [vt];exact h.len,fun x hx=>?_⟩
 unfold fL at hx
 split at hx
 ·rcases List.mem_or_eq_of_mem_set hx with hx|rfl
  ·have:=h.Ka x hx;omega
  ·have:=h.get (d:=c.day.toNat) (by omega);omega
 ·have:=h.Ka x hx;omega
theorem jP {k:Int}:∀ {cs:List iC},(∀ c ∈ cs,(0≤c.day∧c.day < 30)∧0≤c.cz∧c.cz≤300)→gA cs.length (ak k cs):=by
 intro cs h
 have key:∀ (cs:List iC) (l:List Int) (n:Nat),gA n l→(∀ c ∈ cs,(0≤c.day∧c.day < 30)∧0≤c.cz∧c.cz≤300)→gA (n+cs.length) (cs.foldl (fL k) l):=by
  intro cs
  induction cs with
  | nil=>intro l n h _;exact h
  | cons c cs ih =>
   intro l n h1 h2
   have:=ih _ (n+1) (h1.add (k:=k) (h2 c (by simp)).1 (h2 c (by simp)).2) (fun x hx=>h2 x (List.mem_cons_of_mem _ hx))
   rw [List.foldl_cons,List.length_cons,show n+(cs.length+1)=n+1+cs.length from by omega]
   exact this
 have:=key cs _ 0 (gA.zero (k:=k)) h
 rwa [Nat.zero_add] at this
noncomputable def xy:List AV:=match TT.ty.get 114 with|some ⟨_,_,_,some z,_,_,_⟩=>z.cells.toList.map .fl|_=>[]
abbrev eC (n:Int):AV:=ah n
def oI (s:aB) (k:Kind):List AV:=aO s++bG k
abbrev Kc:AV:=.fl (.slice none 0 0)
abbrev aF (s:aB) (k:Kind) (row:List Int) (c:AV):List AV:=oI s k++(row.map eC++[c])
theorem uX {n:Nat} {a b:List AV} (h:ig n a=true) (k:ig n b=true):ig n (a++b)=true:=by
 induction a with
 | nil=>exact k
 | cons x a ih =>
  simp only [ig,Bool.and_eq_true] at h
  simp only [List.cons_append,ig,Bool.and_eq_true]
  exact ⟨h.1,ih h.2⟩
theorem fW {a b:List AV} (h:bw a=true) (k:bw b=true):bw (a++b)=true:=by
 induction a with
 | nil=>exact k
 | cons x a ih =>
  simp only [bw,Bool.and_eq_true] at h
  simp only [List.cons_append,bw,Bool.and_eq_true]
  exact ⟨h.1,ih h.2⟩
theorem xz (l:List Int):bw (l.map eC)=true:=by
 induction l with
 | nil=>rfl
 | cons a l ih=>exact ih
theorem iJ {s:aB} {k:Kind} {row:List Int} {c:AV} (h:c.deep=true):(AV.ag (aF s k row c)).deep=true :=
 fW rfl (fW (xz row) (by simp [bw,h]))
theorem dS {s:aB} {k:Kind} {row:List Int} {c:AV} (h:row.length=30):(aF s k row c).length=43:=by
 simp [aF,oI,h]
theorem xA {s:aB} {k:Kind} {row:List Int} {c:AV} {d:Nat} (h:d < row.length):(aF s k row c)[0+12+d * 1]?=some (ah (row.getD d 0)):=by
 rw [List.getElem?_append_right (by simp [oI]),List.getElem?_append_left (by simp [oI];omega),List.getElem?_map]
 have e:0+12+d * 1 - (oI s k).length=d:=by simp [oI]
 rw [e,List.getD_eq_getElem?_getD,List.getElem?_eq_getElem h]
 rfl
theorem qg {s:aB} {k:Kind} {row:List Int} {c:AV} (h:row.length=30):(aF s k row c)[0+42]?=some c:=by
 rw [List.getElem?_append_right (by simp [oI]),List.getElem?_append_right (by simp [oI,h])]
 have e:0+42 - (oI s k).length - (row.map eC).length=0:=by simp [oI,h]
 rw [e]
 rfl
theorem zC {s:aB} {k:Kind} {row:List Int} {c:AV} (h:row.length=30) (x:AV):cw (aF s k row c) [x] (0+42)=aF s k row x:=by
 have e:(oI s k).length=12:=by simp [oI]
 have h1:cw (aF s k row c) [x] (0+42)=(aF s k row c).set (0+42) x:=by
  rw [List.set_eq_take_append_cons_drop,if_pos (by simp [aF,oI];omega)]
  unfold cw
  simp
 rw [h1,List.set_append_right _ _ (by omega),List.set_append_right _ _ (by simp [e];omega),e,List.length_map,h]
 rfl
theorem CL {s:aB} {k:Kind} {row:List Int} {c:AV} {d:Nat} (h:d < row.length) (v:Int):cw (aF s k row c) [ah v] (0+12+d * 1)=aF s k (row.set d v) c:=by
 have e:(oI s k).length=12:=by simp [oI]
 have h1:cw (aF s k row c) [ah v] (0+12+d * 1)=(aF s k row c).set (0+12+d * 1) (ah v):=by
  rw [List.set_eq_take_append_cons_drop,if_pos (by simp [aF,oI];omega)]
  unfold cw
  simp
 rw [h1,List.set_append_right _ _ (by omega),List.set_append_left _ _ (by simp [e];omega),e,show 0+12+d * 1 - 12=d from by omega]
 show _=oI s k++((row.set d v).map eC++[c])
 rw [List.map_set]
theorem pg {s:aB} {k:Kind} {row:List Int} {c:AV} {n:Nat} (h:c.di n=true):([.cells xy 0 0,.cells (aF s k row c) 0 0]:List AB).all (AB.di n)=true:=by
 have e:ig n (aF s k row c)=true:=by
  refine uX rfl (uX ?_ (by simp [ig,h]))
  induction row with
  | nil=>rfl
  | cons a l ih=>exact ih
 simp only [List.all_cons,AB.di,e,List.all_nil,Bool.and_true]
 rfl
def xB:List Count→List AB
 | []=>[]
 | c :: l=>[.cells (aG c) 0 0,.cells ((c :: l).map aG).flatten 4 l.length]
def oc:List Count→AV
 | []=>Kc
 | _ :: l=>.bX 3 l.length 0 (l.length+1) (l.length+2)
theorem A4 (l:List Count):bw (l.map aG).flatten=true:=by
 induction l with
 | nil=>rfl
 | cons a l ih=>exact ih
theorem jX (l:List Count):(l.map aG).flatten.length=l.length * 4:=by
 induction l with
 | nil=>rfl
 | cons a l ih =>
  simp only [List.map_cons,List.flatten_cons,List.length_append,ih,List.length_cons,List.length_nil]
  omega
theorem CM (n:Nat) (l:List Count):ig n (l.map aG).flatten=true:=by
 induction l with
 | nil=>rfl
 | cons a l ih=>exact ih
theorem Ir (n:Nat) (f:List Count):(xB f).all (AB.di n)=true:=by
 cases f with
 | nil=>rfl
 | cons c l =>
  simp only [xB,List.all_cons,AB.di,CM,List.all_nil,Bool.and_true]
  rfl
theorem Fz.LU {hp:List AB} {l:List AV} {x y:AV} (hl:bw l=true) (h:Fz hp x y):Fz hp (.ag (l++[x])) (.ag (l++[y])):=by
 refine Fz.ag (by simp) (fun i a b ha hb=>?_)
 by_cases hi:i < l.length
 ·rw [List.getElem?_append_left hi] at ha hb
  rw [ha] at hb
  cases hb
  exact Fz.deep (gW hl i a ha)
 ·rw [List.getElem?_append_right (by omega)] at ha hb
  cases hii:i - l.length with
  | zero=>rw [hii] at ha hb;cases ha;cases hb;exact h
  | succ n=>rw [hii] at ha;cases ha
theorem LV (a b:AB) (f:List Count):Fz (a :: b :: xB f) (oc f) (.sl (f.map aG) false):=by
 cases f with
 | nil=>exact Fz.nil
 | cons c l=>exact Fz.row (es:=4) rfl (by rw [jX];simp) (by simp) (fun el hel=>by obtain ⟨x,_,rfl⟩:=List.mem_map.1 hel;rfl) (by rw [List.drop_zero,List.take_of_length_le (by rw [jX];simp)]) (A4 _) (fun h=>Bool.noConfusion h)
theorem D3 {s:aB} {k:Kind} {row:List Int} {f:List Count}:(.cells xy 0 0 :: .cells (aF s k row (oc f)) 0 0 :: xB f:List AB).all (AB.di 4)=true:=by
 have h:=pg (s:=s) (k:=k) (row:=row) (c:=oc f) (n:=4) (by cases f <;> rfl)
 simp only [List.all_cons,List.all_nil,Bool.and_true,Bool.and_eq_true] at h ⊢
 exact ⟨h.1,h.2,Ir 4 f⟩
theorem Gp (c0 c:Count) (f:List Count):oc (c0 :: (f++[c]))=.bX 3 (f.length+1) 0 (f.length+1+1) (f.length+1+1+1):=by simp [oc]
theorem Gq (c0 c:Count) (f:List Count):xB (c0 :: (f++[c]))=[.cells (aG c0) 0 0,.cells (((c0 :: f).map aG).flatten++[aG c].flatten) 4 (f.length+1)]:=by simp [xB]
theorem nA {s:aB} {k:Kind} {row:List Int} {c:AV} (h:row.length=30):List.take 43 (List.drop 0 (aF s k row c))=aF s k row c:=by
 rw [List.drop_zero,List.take_of_length_le (by rw [dS h];omega)]
theorem Is {s:aB} {k:Kind} {row:List Int} {f:List Count}:(AV.ag (aF s k row (oc f))).cells.all AV.one=true:=by
 show (aF s k row (oc f)).all AV.one=true
 have h1:(row.map eC).all AV.one=true:=by
  induction row with
  | nil=>rfl
  | cons a l ih=>exact ih
 rw [List.all_append,List.all_append,h1]
 cases f <;> rfl
theorem Ke {s:aB} {k:Kind} {row:List Int} {f:List Count} {a b:AB}:Fz (a :: b :: xB f) (.ag (aF s k row (oc f))) (.ag (aF s k row (.sl (f.map aG) false))):=by
 have h:∀ c:AV,aF s k row c=(oI s k++row.map eC)++[c]:=fun c=>by simp [aF]
 rw [h,h]
 exact Fz.LU (fW rfl (xz row)) (LV a b f)
theorem LW (one:Bool) (s:aB) (counts:List Count) (full:Bool) (i:Nat) (hi:i < s.kinds.length) (hc:∀ c ∈ s.aj,(0≤c.day∧c.day < 30)∧0≤c.cz∧c.cz≤300) (hl:s.aj.length≤9) (hn:counts.length≤1000) :
  Pu one 89 [.ag (aO s),.sl (counts.map aG) full,ah i] (.ag (aF s s.kinds[i] (ak i s.aj) (.sl ((counts.filter (fun c=>decide (c.kind=(i:Int)))).map aG) false))):=by
 have ec:((s.aj.map bM).length:Int)=s.aj.length:=by simp
 have en:((counts.map aG).length:Int)=counts.length:=by simp
 refine af.body (fn:=Tryz.f89) rfl rfl rfl (iJ rfl) ?_
 refine aa (mu:=fun t=>Nat.beq t 55) ?_
 repeat' (first |with_reducible (first|refine bg ?_|refine aT ?_) |refine u2 ?_ |refine ⟨bG s.kinds[i],⟨by omega,cq hi⟩,rfl,?_⟩ |fail)
 repeat' (first |with_reducible (first|refine bg ?_|refine aT ?_|refine aU ?_) |refine u2 ?_ |fail)
 refine az.aK (ai.to (l:=[(1,.sl (counts.map aG) full),(2,ah i),(6,.ptr 0 0 0),(7,.ptr 1 0 0),(20,.sl (s.aj.map bM) false),(21,ah s.aj.length),(22,ah ((0:Nat):Int))]) (hp:=[.cells xy 0 0,.cells (aF s s.kinds[i] (ak i (s.aj.take 0)) Kc) 0 0]) 2 rfl ⟨rfl,rfl,rfl,rfl,rfl,aH ec,rfl,trivial⟩ (Nat.zero_le _) rfl rfl) ?_
 refine az.loop (fun j:Nat=>j≤s.aj.length) (fun j=>⟨aX [(1,.sl (counts.map aG) full),(2,ah i),(6,.ptr 0 0 0),(7,.ptr 1 0 0),(20,.sl (s.aj.map bM) false),(21,ah s.aj.length),(22,ah (j:Int))],[.cells xy 0 0,.cells (aF s s.kinds[i] (ak i (s.aj.take j)) Kc) 0 0],bN.none,false,0⟩) (fun j=>s.aj.length - j) ?_ 0 (Nat.zero_le _)
 intro j hj
 have hrow:gA (s.aj.take j).length (ak i (s.aj.take j)):=jP fun c hx=>hc c (List.mem_of_mem_take hx)
 have hrl:(s.aj.take j).length=j:=by simp;omega
 rw [hrl] at hrow
 refine aa (mu:=fun t=>Nat.beq t 55) ?_
 repeat' (first |with_reducible (first|refine bg ?_|refine aT ?_) |fail)
 refine ⟨fun h=>?_,fun h=>?_⟩
 ·have hlt:j < s.aj.length:=by simpa only [decide_eq_true_eq,Int.ofNat_lt] using h
  have hcj:=hc s.aj[j] (List.getElem_mem hlt)
  have hrow':ak i (s.aj.take (j+1))=fL i (ak i (s.aj.take j)) s.aj[j]:=by
   rw [List.take_add_one,List.getElem?_eq_getElem hlt]
   exact jE _ _ _
  generalize ak i (s.aj.take j)=row at hrow hrow' ⊢
  have hg:=hrow.get (d:=s.aj[j].day.toNat) (by omega)
  repeat' (first |with_reducible (first|refine bO ?_|refine bg ?_|refine fK ?_|refine aT ?_|refine aU ?_) |refine u2 ?_ |refine ⟨bM s.aj[j],⟨by omega,cq hlt⟩,rfl,?_⟩ |fail)
  refine ⟨fun h2=>?_,fun h2=>?_⟩
  ·have hd:s.aj[j].day.toNat < row.length:=by rw [hrow.len];omega
   repeat' (first |with_reducible refine w4 ?_ |refine u2 ?_ |refine ⟨_,_,rfl,ah (row.getD s.aj[j].day.toNat 0),xA hd,?_⟩ |(refine ⟨_,_,rfl,rfl,rfl,rfl,by rw [dS hrow.len];omega,?_⟩) |fail)
   have h2:s.aj[j].kind=(i:Int):=by simpa using h2
   refine ⟨j+1,hlt,(by dsimp only;omega),ai.to 2 ?_ ⟨rfl,rfl,rfl,rfl,rfl,rfl,aH (by simp),trivial⟩ (Nat.zero_le _) rfl (pg rfl)⟩
   rw [hrow',fL,if_pos h2,←CL hd]
   rfl
  ·have h2:¬ s.aj[j].kind=(i:Int):=by simpa using h2
   repeat' (first |with_reducible refine bO ?_ |refine u2 ?_ |fail)
   refine ⟨j+1,hlt,(by dsimp only;omega),ai.to 2 ?_ ⟨rfl,rfl,rfl,rfl,rfl,rfl,aH (by simp),trivial⟩ (Nat.zero_le _) rfl (pg rfl)⟩
   rw [hrow',fL,if_neg h2]
   rfl
 ·have hj:s.aj.take j=s.aj:=List.take_of_length_le (by simp only [decide_eq_false_iff_not] at h;omega)
  rw [hj] at hrow ⊢
  generalize ak i s.aj=row at hrow ⊢
  have h30:=hrow.len
  clear hrow
  skip
  refine az.aK (ai.to (l:=[(2,ah i),(6,.ptr 0 0 0),(7,.ptr 1 0 0),(41,.sl (counts.map aG) full),(42,ah counts.length),(43,ah ((0:Nat):Int))]) (hp:=.cells xy 0 0 :: .cells (aF s s.kinds[i] row (oc [])) 0 0 :: xB []) 2 rfl ⟨rfl,rfl,rfl,rfl,aH en,rfl,trivial⟩ (Nat.zero_le _) rfl (pg rfl)) ?_
  refine az.loop (fun x:Nat × List Count=>x.1≤counts.length∧x.2=(counts.take x.1).filter (fun c=>decide (c.kind=(i:Int)))) (fun x=>⟨aX [(2,ah i),(6,.ptr 0 0 0),(7,.ptr 1 0 0),(41,.sl (counts.map aG) full),(42,ah counts.length),(43,ah (x.1:Int))],.cells xy 0 0 :: .cells (aF s s.kinds[i] row (oc x.2)) 0 0 :: xB x.2,bN.none,false,0⟩) (fun x=>counts.length - x.1) ?_ (0,[]) ⟨Nat.zero_le _,rfl⟩
  intro ⟨m,f⟩ ⟨hm,hf⟩
  refine aa (mu:=fun t=>Nat.beq t 55) ?_
  repeat' (first |with_reducible (first|refine bg ?_|refine aT ?_) |fail)
  refine ⟨fun h=>?_,fun h=>?_⟩
  ·have hlt:m < counts.length:=by simpa only [decide_eq_true_eq,Int.ofNat_lt] using h
   have hft:(counts.take (m+1)).filter (fun c=>decide (c.kind=(i:Int)))=f++(if counts[m].kind=(i:Int) then [counts[m]] else []):=by
    rw [List.take_add_one,List.getElem?_eq_getElem hlt,List.filter_append,←hf]
    by_cases hk:counts[m].kind=(i:Int)
    ·simp [hk]
    ·simp [hk]
   cases f with
   | nil =>
    repeat' (first |with_reducible (first|refine bO ?_|refine bg ?_|refine fK ?_|refine aT ?_|refine aU ?_) |refine u2 ?_ |refine ⟨aG counts[m],⟨by omega,cq hlt⟩,rfl,?_⟩ |fail)
    refine ⟨fun h2=>?_,fun h2=>?_⟩
    ·have h2:counts[m].kind=(i:Int):=by simpa using h2
     repeat' (first |with_reducible refine aT ?_ |refine u2 ?_ |refine ⟨_,_,rfl,_,qg h30,?_⟩ |fail)
     refine ⟨[aG counts[m]],⟨fun el hel=>by rw [List.mem_singleton.1 hel];rfl,rfl⟩,rfl,And.intro (Nat.le_of_ble_eq_true rfl) (Nat.le_of_ble_eq_true rfl),fun hn=>absurd hn (by simp),fun _=>?_⟩
     repeat' (first |refine u2 ?_ |(refine ⟨_,_,rfl,rfl,rfl,rfl,by rw [dS h30];omega,?_⟩) |fail)
     refine ⟨(m+1,[counts[m]]),⟨hlt,by rw [hft,if_pos h2];rfl⟩,(by dsimp only;omega),ai.to 4 ?_ ⟨rfl,rfl,rfl,rfl,rfl,aH (by simp),trivial⟩ (Nat.zero_le _) rfl ?_⟩
     ·show _=AB.cells xy 0 0 :: AB.cells (aF s s.kinds[i] row (oc [counts[m]])) 0 0 :: xB [counts[m]]
      rw [←zC (c:=Kc) h30 (oc [counts[m]])]
      rfl
     ·exact D3
    ·have h2:¬ counts[m].kind=(i:Int):=by simpa using h2
     repeat' (first |with_reducible refine bO ?_ |refine u2 ?_ |fail)
     refine ⟨(m+1,[]),⟨hlt,by rw [hft,if_neg h2];rfl⟩,(by dsimp only;omega),ai.to 2 rfl ⟨rfl,rfl,rfl,rfl,rfl,aH (by simp),trivial⟩ (Nat.zero_le _) rfl (pg rfl)⟩
   | cons c0 f =>
    have hfl:f.length+1≤1000:=by
     have:((counts.take m).filter (fun c=>decide (c.kind=(i:Int)))).length≤counts.length:=Nat.le_trans (List.length_filter_le _ _) (by simp;omega)
     rw [←hf] at this
     simpa using Nat.le_trans this hn
    repeat' (first |with_reducible (first|refine bO ?_|refine bg ?_|refine fK ?_|refine aT ?_|refine aU ?_) |refine u2 ?_ |refine ⟨aG counts[m],⟨by omega,cq hlt⟩,rfl,?_⟩ |fail)
    refine ⟨fun h2=>?_,fun h2=>?_⟩
    ·have h2:counts[m].kind=(i:Int):=by simpa using h2
     repeat' (first |with_reducible refine aT ?_ |refine u2 ?_ |refine ⟨_,_,rfl,_,qg h30,?_⟩ |fail)
     refine ⟨[aG counts[m]],⟨fun el hel=>by rw [List.mem_singleton.1 hel];rfl,rfl⟩,rfl,_,rfl,jX (c0 :: f),Or.inr rfl,And.intro (by dsimp only [List.length];omega) (by dsimp only [List.length];omega),fun hn=>absurd hn (by simp),fun _=>?_⟩
     repeat' (first |refine u2 ?_ |(refine ⟨_,_,rfl,rfl,rfl,rfl,by rw [dS h30];omega,?_⟩) |fail)
     refine ⟨(m+1,c0 :: (f++[counts[m]])),⟨hlt,by rw [hft,if_pos h2];rfl⟩,(by dsimp only;omega),ai.to 4 ?_ ⟨rfl,rfl,rfl,rfl,rfl,aH (by simp),trivial⟩ (Nat.zero_le _) rfl D3⟩
     show _=AB.cells xy 0 0 :: AB.cells (aF s s.kinds[i] row (oc (c0 :: (f++[counts[m]])))) 0 0 :: xB (c0 :: (f++[counts[m]]))
     rw [←zC (c:=oc (c0 :: f)) h30 (oc (c0 :: (f++[counts[m]]))),Gp,Gq]
     rfl
    ·have h2:¬ counts[m].kind=(i:Int):=by simpa using h2
     repeat' (first |with_reducible refine bO ?_ |refine u2 ?_ |fail)
     refine ⟨(m+1,c0 :: f),⟨hlt,by rw [hft,if_neg h2,List.append_nil]⟩,(by dsimp only;omega),ai.to 4 rfl ⟨rfl,rfl,rfl,rfl,rfl,aH (by simp),trivial⟩ (Nat.zero_le _) rfl D3⟩
  ·have hm:counts.take m=counts:=List.take_of_length_le (by simp only [decide_eq_false_iff_not] at h;omega)
   rw [hm] at hf
   simp only at hf
   subst hf
   generalize hF:counts.filter (fun c=>decide (c.kind=(i:Int)))=f
   repeat' (first |(refine ⟨_,_,rfl,by rw [dS h30];omega,?_⟩) |fail)
   rw [nA h30]
   repeat' (first |(refine ⟨_,_,rfl,rfl,Is,dS h30,Nat.le_of_ble_eq_true rfl,?_⟩) |fail)
   have e:cw xy (AV.ag (aF s s.kinds[i] row (oc f))).cells 0=aF s s.kinds[i] row (oc f):=by
    show []++(aF s s.kinds[i] row (oc f))++xy.drop (0+(aF s s.kinds[i] row (oc f)).length)=_
    rw [dS h30,show xy.drop (0+43)=[] from rfl,List.nil_append,List.append_nil]
   rw [e]
   refine ⟨_,_,rfl,by rw [dS h30];omega,?_⟩
   rw [nA h30]
   exact ⟨[_],⟨Ke,trivial⟩,rfl⟩
end Go.Proofs.YtalcbebjpgfnfaaGreat.St
open Go Go.RM
namespace Go.Proofs.YtalcbebjpgfnfaaGreat.St
set_option maxRecDepth 100000
def s9 (k:Kind) (t:aE) (down:Int) (i:Nat) (n:Int):Int:=if down≤i then (n * t.aR * k.cJ+1000 - 1) / 1000 else n * t.aR
def iT (au:List Int) (k:Kind) (row:List Int) (t:aE) (down:Int) (i:Nat) (have_:Int):Int :=
 max have_ (min (have_+row.getD i 0) k.room) - s9 k t down i (au.getD i 0) - t.ay
def aW (au:List Int) (k:Kind) (row:List Int) (t:aE) (down:Int):Nat→Int
 | 0=>t.first
 | i+1=>max 0 (iT au k row t down i (aW au k row t down i))
def bD (au:List Int) (k:Kind) (row:List Int) (t:aE) (down:Int):Nat→Int
 | 0=>au.length
 | i+1=>if iT au k row t down i (aW au k row t down i) < 0 then min (bD au k row t down i) i else bD au k row t down i
structure eK (au:List Int) (k:Kind) (row:List Int) (t:aE):Prop where
 zD:au.length≤30
 au:∀ n ∈ au,0≤n∧n≤12
 row:gA 9 row
 room:0≤k.room∧k.room≤300
 cJ:0≤k.cJ∧k.cJ≤1000
 first:0≤t.first∧t.first≤300
 aR:0≤t.aR∧t.aR≤6
 ay:0≤t.ay∧t.ay≤12
theorem eK.n {au:List Int} {k:Kind} {row:List Int} {t:aE} (h:eK au k row t) {i:Nat} (hi:i < au.length):0≤au.getD i 0∧au.getD i 0≤12:=by
 rw [List.getD_eq_getElem?_getD,List.getElem?_eq_getElem hi]
 exact h.au _ (List.getElem_mem _)
theorem fV {a b A B:Int} (ha:0≤a∧a≤A) (hb:0≤b∧b≤B):0≤a * b∧a * b≤A * B :=
 ⟨Int.mul_nonneg ha.1 hb.1,Int.mul_le_mul ha.2 hb.2 hb.1 (by omega)⟩
theorem eK.N4 {au:List Int} {k:Kind} {row:List Int} {t:aE} (h:eK au k row t) (down:Int) {i:Nat} (hi:i < au.length):0≤s9 k t down i (au.getD i 0)∧s9 k t down i (au.getD i 0)≤72:=by
 have h1:=fV (h.n hi) h.aR
 have h2:=fV h1 h.cJ
 unfold s9
 split <;> omega
theorem eK.zE {au:List Int} {k:Kind} {row:List Int} {t:aE} (h:eK au k row t) (down:Int):∀ i,i≤au.length→0≤aW au k row t down i∧aW au k row t down i≤300
 | 0,_=>h.first
 | i+1,hi=>by
  have ih:=h.zE down i (by omega)
  have h1:=h.N4 down (i:=i) (by omega)
  have h2:=h.row.get (d:=i) (by have:=h.zD;omega)
  have h3:=h.room
  have h4:=h.ay
  simp only [aW,iT]
  omega
theorem zF (au:List Int) (k:Kind) (row:List Int) (t:aE) (down:Int) (i:Nat):aW au k row t down (i+1)=max 0 (max (aW au k row t down i) (min (aW au k row t down i+row.getD i 0) k.room) - (if down≤i then (au.getD i 0 * t.aR * k.cJ+1000 - 1) / 1000 else au.getD i 0 * t.aR) - t.ay):=rfl
theorem xC (au:List Int) (k:Kind) (row:List Int) (t:aE) (down:Int) (i:Nat):bD au k row t down (i+1)=if max (aW au k row t down i) (min (aW au k row t down i+row.getD i 0) k.room) - (if down≤i then (au.getD i 0 * t.aR * k.cJ+1000 - 1) / 1000 else au.getD i 0 * t.aR) - t.ay < 0 then min (bD au k row t down i) i else bD au k row t down i:=rfl
def A5:Nat→Nat
 | 0=>1
 | k+1=>k+3
abbrev vu (au:List Int) (k:Kind) (row:List Int) (t:aE) (down:Int) (n:Nat):AB:=.cells ((List.range (n+1)).map fun i=>ah (aW au k row t down i)) 1 n
theorem gu {s:aB} {k:Kind} {row:List Int} {f:List (List AV)} {b:Bool}:(AV.ag (aF s k row (.sl f b))).cells.all AV.one=true:=by
 show (aF s k row (.sl f b)).all AV.one=true
 have h1:(row.map eC).all AV.one=true:=by
  induction row with
  | nil=>rfl
  | cons a l ih=>exact ih
 rw [List.all_append,List.all_append,h1]
 rfl
theorem gP {s:aB} {k:Kind} {row:List Int} {f:List (List AV)} {b:Bool}:bw (AV.ag (aF s k row (.sl f b))).cells=true:=iJ rfl
theorem jd (i:Nat):A5 i=i+1∨A5 i=i+1+1:=by
 cases i <;> simp [A5]
theorem ew {au:List Int} {k:Kind} {row:List Int} {t:aE} {down:Int} {i:Nat} {v:Int} (h:aW au k row t down (i+1)=v) :
  [AB.cells (((List.range (i+1)).map fun i=>ah (aW au k row t down i))++[eI v].flatten) 1 (i+1)]=[vu au k row t down (i+1)]:=by
 rw [vu,List.range_succ (n:=i+1),List.map_append,List.map_cons,h]
 rfl
theorem CN {α:Type} {f:α→AV} {n:Nat} (h:∀ a,(f a).di n=true):∀ l:List α,ig n (l.map f)=true
 | []=>rfl
 | a :: l=>by simp only [List.map_cons,ig,h a,CN h l,Bool.and_true]
theorem zG {α:Type} {f:α→AV} (h:∀ a,(f a).deep=true):∀ l:List α,bw (l.map f)=true
 | []=>rfl
 | a :: l=>by simp only [List.map_cons,bw,h a,zG h l,Bool.and_true]
theorem uo {α:Type} {f:α→AV}:∀ l:List α,(l.map fun a=>[f a]).flatten=l.map f
 | []=>rfl
 | a :: l=>by simp only [List.map_cons,List.flatten_cons,uo l];rfl
theorem eH (au:List Int) (k:Kind) (row:List Int) (t:aE) (down:Int) (i:Nat):([vu au k row t down i]:List AB).all (AB.di 1)=true:=by
 simp only [List.all_cons,List.all_nil,Bool.and_true,AB.di]
 exact CN (fun _=>rfl) _
theorem D4 (au:List Int) (k:Kind) (row:List Int) (t:aE) (down:Int) (i:Nat):Fz [vu au k row t down i] (.bX 0 i 0 (i+1) (A5 i)) (.sl ((List.range (i+1)).map fun i=>eI (aW au k row t down i)) false) :=
 Fz.row (es:=1) rfl (by simp) (by simp) (fun el hel=>by obtain ⟨x,_,rfl⟩:=List.mem_map.1 hel;rfl) (by rw [uo (f:=fun i=>ah (aW au k row t down i)),List.drop_zero,List.take_of_length_le (by simp)]) (by rw [uo (f:=fun i=>ah (aW au k row t down i))];exact zG (fun _=>rfl) _) (fun h=>Bool.noConfusion h)
theorem Lf (one:Bool) (s:aB) (k:Kind) (row:List Int) (cnts:List (List AV)) (t:aE) (down:Int) (h:eK s.au k row t) :
  Pu one 90 [.ag (aF s k row (.sl cnts false)),.ag (aV t),ah down] (.tp [.sl ((List.range (s.au.length+1)).map fun i=>eI (aW s.au k row t down i)) false,ah (bD s.au k row t down s.au.length)]):=by
 have em:((s.au.map eI).length:Int)=s.au.length:=by simp
 refine af.body (fn:=Tryz.f90) rfl rfl rfl rfl ?_
 refine aa (mu:=fun t=>Nat.beq t 69 || Nat.beq t 15) ?_
 refine ⟨rfl,gu,gP,?_⟩
 repeat' (first |with_reducible (first|refine bg ?_|refine aT ?_|refine aU ?_) |refine u2 ?_ |fail)
 refine az.aK (ai.to (l:=[(2,ah down),(3,.pt (aF s k row (.sl cnts false)) 0),(4,.pt (aV t) 0),(6,.bX 0 0 0 1 1),(7,ah s.au.length),(8,ah t.first),(22,.sl (s.au.map eI) false),(23,ah s.au.length),(24,ah ((0:Nat):Int))]) (hp:=[vu s.au k row t down 0]) 1 rfl ⟨rfl,rfl,rfl,rfl,aH em,rfl,rfl,aH em,rfl,trivial⟩ (Nat.zero_le _) rfl rfl) ?_
 refine az.loop (fun i:Nat=>i≤s.au.length) (fun i=>⟨aX [(2,ah down),(3,.pt (aF s k row (.sl cnts false)) 0),(4,.pt (aV t) 0),(6,.bX 0 i 0 (i+1) (A5 i)),(7,ah (bD s.au k row t down i)),(8,ah (aW s.au k row t down i)),(22,.sl (s.au.map eI) false),(23,ah s.au.length),(24,ah (i:Int))],[vu s.au k row t down i],bN.none,false,0⟩) (fun i=>s.au.length - i) ?_ 0 (Nat.zero_le _)
 intro i hi
 refine aa (mu:=fun t=>Nat.beq t 69 || Nat.beq t 15) ?_
 repeat' (first |with_reducible (first|refine bg ?_|refine aT ?_) |fail)
 refine ⟨fun h2=>?_,fun h2=>?_⟩
 ·have hlt:i < s.au.length:=by simpa only [decide_eq_true_eq,Int.ofNat_lt] using h2
  have b1:=h.n hlt
  have b2:=fV b1 h.aR
  have b3:=fV b2 h.cJ
  have b4:=h.zE down i hi
  have b5:=h.row.get (d:=i) (by have:=h.zD;omega)
  have b6:=h.room
  have b7:=h.ay
  have hget:s.au[i]=s.au.getD i 0:=by rw [List.getD_eq_getElem?_getD,List.getElem?_eq_getElem hlt];rfl
  have hhv:=zF s.au k row t down i
  have hsh:=xC s.au k row t down i
  rw [←hget] at b1 b2 b3 hhv hsh
  repeat' (first |with_reducible (first|refine bO ?_|refine bg ?_|refine fK ?_|refine aT ?_|refine aU ?_) |refine u2 ?_ |refine ⟨eI s.au[i],⟨by omega,cq hlt⟩,rfl,?_⟩ |fail)
  generalize s.au[i]=n at b1 b2 b3 hhv hsh
  generalize aW s.au k row t down i=hv at b4 hhv hsh
  have b8:=h.zD
  have hd:i < row.length:=by rw [h.row.len];omega
  have hg:(aF s k row (.sl cnts false))[0+12+(i:Int).toNat * 1]?=some (ah (row.getD i 0)):=xA (d:=i) hd
  have hq:IntKind.i64.wrap ((n * t.aR * k.cJ+1000 - 1).tdiv 1000)=(n * t.aR * k.cJ+1000 - 1) / 1000:=IntWalk.i64_quo _ 1000 (by omega)
  skip
  refine ⟨fun h3=>?_,fun h3=>?_⟩
  ·rw [if_pos (show down≤(i:Int) by simpa using h3)] at hhv hsh
   repeat' (first |with_reducible refine aT ?_ |refine u2 ?_ |fail)
   rw [hq]
   have hu:0≤(n * t.aR * k.cJ+1000 - 1) / 1000∧(n * t.aR * k.cJ+1000 - 1) / 1000≤72:=by omega
   generalize (n * t.aR * k.cJ+1000 - 1) / 1000=u at hhv hsh hu
   refine ⟨_,hg,?_⟩
   repeat' (first |with_reducible (first|refine bO ?_|refine bg ?_|refine aT ?_|refine aU ?_) |refine u2 ?_ |refine ⟨fun h=>?_,fun h=>?_⟩ |fail)
   ·refine ⟨[eI 0],⟨fun el hel=>by rw [List.mem_singleton.1 hel];rfl,rfl⟩,rfl,_,rfl,by simp,jd i,And.intro (by dsimp only [List.length];omega) (by dsimp only [List.length];omega),fun hn=>absurd hn (by simp),fun _=>?_⟩
    repeat' (first |refine u2 ?_ |fail)
    rw [decide_eq_true_eq] at h
    rw [if_pos h] at hsh
    refine ⟨i+1,hlt,(by dsimp only;omega),ai.to 1 (ew (by rw [hhv];omega)) ⟨rfl,rfl,rfl,rfl,aH hsh.symm,aH (by rw [hhv];omega),rfl,rfl,aH (by simp),trivial⟩ (Nat.zero_le _) rfl (eH _ _ _ _ _ _)⟩
   ·refine ⟨[eI _],⟨fun el hel=>by rw [List.mem_singleton.1 hel];rfl,rfl⟩,rfl,_,rfl,by simp,jd i,And.intro (by dsimp only [List.length];omega) (by dsimp only [List.length];omega),fun hn=>absurd hn (by simp),fun _=>?_⟩
    repeat' (first |refine u2 ?_ |fail)
    rw [decide_eq_false_iff_not] at h
    rw [if_neg h] at hsh
    refine ⟨i+1,hlt,(by dsimp only;omega),ai.to 1 (ew (by rw [hhv];omega)) ⟨rfl,rfl,rfl,rfl,aH hsh.symm,aH (by rw [hhv];omega),rfl,rfl,aH (by simp),trivial⟩ (Nat.zero_le _) rfl (eH _ _ _ _ _ _)⟩
  ·rw [if_neg (show ¬ down≤(i:Int) by simpa using h3)] at hhv hsh
   clear hq
   have hu:0≤n * t.aR∧n * t.aR≤72:=by omega
   repeat' (first |with_reducible (first|refine bO ?_|refine bg ?_|refine w4 ?_|refine aU ?_) |refine u2 ?_ |fail)
   generalize n * t.aR=u at hhv hsh hu
   refine ⟨_,hg,?_⟩
   repeat' (first |with_reducible (first|refine bO ?_|refine bg ?_|refine aT ?_|refine aU ?_) |refine u2 ?_ |refine ⟨fun h=>?_,fun h=>?_⟩ |fail)
   ·refine ⟨[eI 0],⟨fun el hel=>by rw [List.mem_singleton.1 hel];rfl,rfl⟩,rfl,_,rfl,by simp,jd i,And.intro (by dsimp only [List.length];omega) (by dsimp only [List.length];omega),fun hn=>absurd hn (by simp),fun _=>?_⟩
    repeat' (first |refine u2 ?_ |fail)
    rw [decide_eq_true_eq] at h
    rw [if_pos h] at hsh
    refine ⟨i+1,hlt,(by dsimp only;omega),ai.to 1 (ew (by rw [hhv];omega)) ⟨rfl,rfl,rfl,rfl,aH hsh.symm,aH (by rw [hhv];omega),rfl,rfl,aH (by simp),trivial⟩ (Nat.zero_le _) rfl (eH _ _ _ _ _ _)⟩
   ·refine ⟨[eI _],⟨fun el hel=>by rw [List.mem_singleton.1 hel];rfl,rfl⟩,rfl,_,rfl,by simp,jd i,And.intro (by dsimp only [List.length];omega) (by dsimp only [List.length];omega),fun hn=>absurd hn (by simp),fun _=>?_⟩
    repeat' (first |refine u2 ?_ |fail)
    rw [decide_eq_false_iff_not] at h
    rw [if_neg h] at hsh
    refine ⟨i+1,hlt,(by dsimp only;omega),ai.to 1 (ew (by rw [hhv];omega)) ⟨rfl,rfl,rfl,rfl,aH hsh.symm,aH (by rw [hhv];omega),rfl,rfl,aH (by simp),trivial⟩ (Nat.zero_le _) rfl (eH _ _ _ _ _ _)⟩
 ·have hi:i=s.au.length:=by rw [decide_eq_false_iff_not] at h2;omega
  subst hi
  skip
  exact ⟨[_,_],⟨D4 _ _ _ _ _ _,Fz.deep rfl,trivial⟩,rfl⟩
end Go.Proofs.YtalcbebjpgfnfaaGreat.St
