/-
  Contracts of the program's functions and of the document's. Lemmas alone; their conditions stand in them.
-/
import Derived.Test.YtalcbebjpgfnfaaGreatA2
import Derived.Test.YtalcbebjpgfnfaaGreatK2
import Derived.Test.YtalcbebjpgfnfaaGreatK5
open Go Go.RM
namespace Go.Proofs.YtalcbebjpgfnfaaGreat.St
set_option maxRecDepth 100000
theorem Gn (lo hi n:Int) (l:List Int):aM lo hi (n :: l)=(!kM n lo hi || aM lo hi l):=by
 rw [←dK]
 simp [aM]
theorem Iq (lo hi:Int):aM lo hi []=false:=rfl
theorem D0 : ∀ o1 b1 o2 b2 o3 b3 r t : Bool,
    (if (o1 || r) || o2 || o3 || t then (7 : Int) else if b1 || b2 || b3 then 2 else 0) =
    (let a : Int := if o1 then 7 else if b1 then 2 else 0
     let b : Int := if o2 then 7 else if b2 then 2 else 0
     let c : Int := if o3 then 7 else if b3 then 2 else 0
     if a = 7 ∨ b = 7 ∨ c = 7 ∨ r = true ∨ t = true then 7 else if a ≠ 0 ∨ b ≠ 0 ∨ c ≠ 0 then 2 else 0) := by decide
theorem D1 (k:Kind) (names:List ByteArray):eY k names=if iA k.name names ≠ 0 then iA k.name names else
  if aN 0 300 k.first=7∨aN 0 6 k.aR=7∨aN 0 12 k.ay=7∨(!kM k.room 0 300)=true∨(!kM k.cJ 0 1000)=true then 7
  else if aN 0 300 k.first ≠ 0∨aN 0 6 k.aR ≠ 0∨aN 0 12 k.ay ≠ 0 then 2 else 0:=by
 have h:=D0 (!kM k.first.lo 0 300 || !kM k.first.hi 0 300) (decide (k.first.hi < k.first.lo)) (!kM k.aR.lo 0 6 || !kM k.aR.hi 0 6) (decide (k.aR.hi < k.aR.lo)) (!kM k.ay.lo 0 12 || !kM k.ay.hi 0 12) (decide (k.ay.hi < k.ay.lo)) (!kM k.room 0 300) (!kM k.cJ 0 1000)
 simp only [decide_eq_true_eq] at h
 unfold aN
 rw [←h]
 unfold eY iA
 simp only [Gn,Iq,Bool.or_false,Bool.or_assoc]
 by_cases h1:ja k.name=false
 ·simp [h1]
 ·by_cases h2:(names.any fun x=>vr x k.name)=true
  ·simp [h1,h2]
  ·simp only [h1,h2]
   simp
theorem E6 (one:Bool) (k:Kind) (names:List ByteArray) (full:Bool) (hk:k.name.data.toList.length≤maxLen) (ho:names.length≤maxLen):Pu one 20 [.ag (bG k),.sl (names.map eS) full] (ah (eY k names)):=by
 rw [D1]
 have c1:=EP one names full k.name hk ho
 have c2:=qd one k.first 0 300
 have c3:=qd one k.aR 0 6
 have c4:=qd one k.ay 0 12
 generalize iA k.name names=e at c1 ⊢
 generalize aN 0 300 k.first=a at c2 ⊢
 generalize aN 0 6 k.aR=b at c3 ⊢
 generalize aN 0 12 k.ay=c at c4 ⊢
 refine af.body (fn:=Tryz.f20) rfl rfl rfl rfl ?_
 refine aa (mu:=fun _=>false) ?_
 repeat' (first |with_reducible (first|refine bO ?_|refine bg ?_|refine aT ?_|refine aU ?_) |(refine ⟨_,rfl,?_⟩) |(refine bC (by assumption) ?_) |(refine bC rfl ?_) |(refine bS rfl ?_) |(refine bS (by assumption) ?_) |(refine ⟨_,_,rfl,by decide,?_⟩) |(refine ⟨rfl,rfl,rfl,?_⟩) |(refine And.intro (Nat.le_of_ble_eq_true rfl) ?_) |(refine af.call (oY one _ _ _) rfl rfl ?_) |(refine af.call c1 rfl rfl ?_) |(refine af.call c2 rfl rfl ?_) |(refine af.call c3 rfl rfl ?_) |(refine af.call c4 rfl rfl ?_) |(refine ⟨fun h=>?_,fun h=>?_⟩) |fail)
 all_goals refine ⟨[_],⟨Fz.deep rfl,trivial⟩,aH ?_⟩
 all_goals simp_all
end Go.Proofs.YtalcbebjpgfnfaaGreat.St
open Go Go.RM
namespace Go.Proofs.YtalcbebjpgfnfaaGreat.St
set_option maxRecDepth 100000
def cG (s:aB):Bool:=aM 1 30 [(s.au.length:Int)] || aM 1 4 [(s.kinds.length:Int)] || decide (8 < (s.aj.length:Int))
theorem E7 {s:aB} (h:cG s=true):ir s=(1,0,3):=by
 unfold ir
 unfold cG at h
 rw [if_pos h]
theorem MQ {s:aB} (h:cG s=false) {k:Nat} (hk:k < s.au.length) (hprev:∀ i (h:i < s.au.length),i < k→aM 0 12 [s.au[i]]=false) (hp:aM 0 12 [s.au[k]]=true):ir s=(1,(k:Int),7):=by
 unfold ir
 unfold cG at h
 rw [if_neg (by rw [h];decide),iR hk hprev hp]
 simp
def lY (s:aB) (i:Nat):Int:=match s.kinds[i]? with|some k=>eY k ((s.kinds.take i).map (·.name))|none=>0
def qu (s:aB) (i:Nat):Int:=match s.aj[i]? with|some c=>gO s c|none=>0
theorem vG {s:aB} {i:Nat} (h:i < s.kinds.length):lY s i=eY s.kinds[i] ((s.kinds.take i).map (·.name)):=by
 unfold lY
 rw [List.getElem?_eq_getElem h]
theorem E8 {s:aB} {i:Nat} (h:i < s.aj.length):qu s i=gO s s.aj[i]:=by
 unfold qu
 rw [List.getElem?_eq_getElem h]
theorem s8 {s:aB} (h:cG s=false) (h1:∀ i (h:i < s.au.length),aM 0 12 [s.au[i]]=false):ir s =
  if (bT s.kinds.length (lY s)).2 ≠ 0 then (2,(bT s.kinds.length (lY s)).1,(bT s.kinds.length (lY s)).2)
  else if (bT s.aj.length (qu s)).2 ≠ 0 then (3,(bT s.aj.length (qu s)).1,(bT s.aj.length (qu s)).2) else (0,0,0):=by
 unfold ir
 unfold cG at h
 rw [if_neg (by rw [h];decide),iS h1]
 rfl
theorem La {s:aB} (h:cG s=false) (h1:∀ i (h:i < s.au.length),aM 0 12 [s.au[i]]=false) {k:Nat} (hk:k < s.kinds.length) (hprev:∀ i,i < k→lY s i=0) (hp:lY s k ≠ 0):ir s=(2,(k:Int),lY s k):=by
 rw [s8 h h1,gM hk hprev hp,if_pos hp]
theorem Lc {s:aB} (h:cG s=false) (h1:∀ i (h:i < s.au.length),aM 0 12 [s.au[i]]=false) (h2:∀ i,i < s.kinds.length→lY s i=0) {k:Nat} (hk:k < s.aj.length) (hprev:∀ i,i < k→qu s i=0) (hp:qu s k ≠ 0):ir s=(3,(k:Int),qu s k):=by
 rw [s8 h h1,eW h2,gM hk hprev hp,if_neg (by simp),if_pos hp]
theorem Ld {s:aB} (h:cG s=false) (h1:∀ i (h:i < s.au.length),aM 0 12 [s.au[i]]=false) (h2:∀ i,i < s.kinds.length→lY s i=0) (h3:∀ i,i < s.aj.length→qu s i=0):ir s=(0,0,0):=by
 rw [s8 h h1,eW h2,eW h3,if_neg (by simp),if_neg (by simp)]
theorem xu {s:aB} (h:cG s=false):(1≤s.au.length∧s.au.length≤30)∧(1≤s.kinds.length∧s.kinds.length≤4)∧s.aj.length≤8:=by
 unfold cG at h
 simp only [dK,Bool.or_eq_false_iff,Bool.not_eq_false',fm,decide_eq_false_iff_not] at h
 omega
def D2:Nat→AV
 | 0=>.fl (.slice none 0 0)
 | k+1=>.bX 0 k 0 (k+1) (k+2)
def A3 (s:aB):Nat→List AB
 | 0=>[]
 | k+1=>[.cells ((s.kinds.take (k+1)).map fun x=>ST x.name) 1 k]
theorem xw (s:aB) (k:Nat):(A3 s k).all (AB.di 1)=true:=by
 cases k with
 | zero=>rfl
 | succ k =>
  simp only [A3,List.all_cons,List.all_nil,Bool.and_true,AB.di]
  induction s.kinds.take (k+1) with
  | nil=>rfl
  | cons a l ih=>exact ih
theorem xx (s:aB) {k:Nat} (h:k < s.kinds.length):(s.kinds.take (k+1)).map (fun x=>ST x.name)=(s.kinds.take k).map (fun x=>ST x.name)++[ST s.kinds[k].name]:=by
 rw [List.take_add_one,List.getElem?_eq_getElem h,List.map_append]
 rfl
theorem lK (l:List Kind):((l.map (·.name)).map eS).flatten=l.map (fun x=>ST x.name):=by
 induction l with
 | nil=>rfl
 | cons a l ih =>
  simp only [List.map_cons,List.flatten_cons,ih]
  rfl
theorem pe (l:List Kind):bw (l.map (fun x=>ST x.name))=true:=by
 induction l with
 | nil=>rfl
 | cons a l ih=>exact ih
theorem uh (l:List Kind) {n v c:Nat} (h:l.length=n):Fz [.cells (l.map fun x=>ST x.name) 1 v] (.bX 0 v 0 n c) (.sl ((l.map (·.name)).map eS) false) :=
 Fz.row (es:=1) rfl (by simp;omega) (by simp;omega) (fun el hel=>by obtain ⟨x,_,rfl⟩:=List.mem_map.1 hel;rfl) (by rw [lK,List.drop_zero,List.take_of_length_le (by simp;omega)]) (by rw [lK];exact pe _) (fun h=>Bool.noConfusion h)
theorem xp (s : aB) (h : s.Ok) (one : Bool) : Pu one 5 [.ag (aO s)] (.tp [ah (ir s).1, ah (ir s).2.1, ah (ir s).2.2]) := by
  have hm := h.au
  have hk := h.kinds
  have hc := h.aj
  have hnm := h.names
  have em : ((s.au.map eI).length : Int) = s.au.length := by simp
  have ek : ((s.kinds.map bG).length : Int) = s.kinds.length := by simp
  have ec : ((s.aj.map bM).length : Int) = s.aj.length := by simp
  unfold maxLen at hm hk hc
  refine af.body (fn := Tryz.f5) rfl rfl rfl rfl ?_
  refine aa (mu := fun t => Nat.beq t 66) ?_
  repeat' (first |with_reducible (first|refine bO ?_|refine bg ?_|refine aT ?_|refine aU ?_) |(refine ⟨_, rfl, ?_⟩) |(refine bC (by assumption) ?_) |(refine bC rfl ?_) |(refine bS rfl ?_) |(refine bS (by assumption) ?_) |(refine ⟨_, _, rfl, by decide, ?_⟩) |(refine ⟨rfl, rfl, rfl, ?_⟩) |(refine af.call (oY one _ _ _) rfl rfl ?_) |(refine ⟨fun h => ?_, fun h => ?_⟩) |fail)
  all_goals first
    | (have hb : cG s = true := by
         unfold cG
         simp only [dK]
         simp_all
       rw [E7 hb]
       exact ⟨[_, _, _], ⟨Fz.deep rfl, Fz.deep rfl, Fz.deep rfl, trivial⟩, rfl⟩)
    | skip
  have hb : cG s = false := by
    unfold cG
    simp only [dK]
    simp_all
  obtain ⟨⟨m1, m2⟩, ⟨k1, k2⟩, c1⟩ := xu hb
  skip
  refine az.aK (ai.to (l := [(1, .pt (aO s) 0), (5, ah ((0 : Nat) : Int))]) 0 rfl ⟨rfl, rfl, trivial⟩ (Nat.le_refl _) rfl rfl) ?_
  refine az.loop (fun k : Nat => k ≤ s.au.length ∧ ∀ i (h : i < s.au.length), i < k → aM 0 12 [s.au[i]] = false) (fun k => ⟨aX [(1, .pt (aO s) 0), (5, ah (k : Int))], [], bN.none, false, 0⟩) (fun k => s.au.length - k) ?_ 0 ⟨Nat.zero_le _, fun i _ hi => absurd hi (by omega)⟩
  intro k ⟨hk', hprev⟩
  refine aa (mu := fun t => Nat.beq t 66) ?_
  repeat' (first |with_reducible (first|refine bg ?_|refine aT ?_) |refine u2 ?_ |fail)
  refine ⟨fun h => ?_, fun h => ?_⟩
  · have hlt : k < s.au.length := by simpa using h
    repeat' (first |with_reducible (first|refine bO ?_|refine bg ?_|refine fK ?_|refine aT ?_|refine aU ?_) |refine u2 ?_ |refine ⟨eI s.au[k], ⟨by omega, cq hlt⟩, rfl, ?_⟩ |refine af.call (oY one _ _ _) rfl rfl ?_ |fail)
    refine ⟨fun h2 => ?_, fun h2 => ?_⟩
    · repeat' (first |with_reducible (first|refine bg ?_|refine aT ?_) |fail)
      refine ⟨[_, _, _], ⟨Fz.deep rfl, Fz.deep rfl, Fz.deep rfl, trivial⟩, ?_⟩
      rw [MQ hb hlt hprev (by rw [dK]; exact h2)]; rfl
    · repeat' (first |with_reducible refine bO ?_ |refine u2 ?_ |fail)
      refine ⟨k + 1, ⟨hlt, fun i hi hik => ?_⟩, (by dsimp only; omega), ai.to 0 rfl ⟨rfl, aH (by simp), trivial⟩ (Nat.le_refl _) rfl rfl⟩
      by_cases hik' : i = k
      · subst hik'; rw [dK]; exact h2
      · exact hprev i hi (by omega)
  have hmen : ∀ i (h : i < s.au.length), aM 0 12 [s.au[i]] = false := fun i hi => hprev i hi (by simp at h; omega)
  clear hprev h
  skip
  refine az.aK (ai.to (l := [(1, .pt (aO s) 0), (6, D2 0), (7, ah ((0 : Nat) : Int))]) 0 rfl ⟨rfl, rfl, rfl, trivial⟩ (Nat.le_refl _) rfl rfl) ?_
  refine az.loop (fun k : Nat => k ≤ s.kinds.length ∧ ∀ i, i < k → lY s i = 0) (fun k => ⟨aX [(1, .pt (aO s) 0), (6, D2 k), (7, ah (k : Int))], A3 s k, bN.none, false, 0⟩) (fun k => s.kinds.length - k) ?_ 0 ⟨Nat.zero_le _, fun i hi => absurd hi (by omega)⟩
  intro k ⟨hk', hprev⟩
  cases k with
  | zero =>
    refine aa (mu := fun t => Nat.beq t 66) ?_
    repeat' (first |with_reducible (first|refine bg ?_|refine aT ?_) |refine u2 ?_ |fail)
    refine ⟨fun h => ?_, fun h => ?_⟩
    · have hlt : 0 < s.kinds.length := k1
      have hce := vG hlt
      repeat' (first |with_reducible (first|refine bO ?_|refine bg ?_|refine fK ?_|refine aT ?_|refine aU ?_) |refine u2 ?_ |refine ⟨bG s.kinds[0], ⟨by omega, cq hlt⟩, rfl, ?_⟩ |refine af.F3 (E6 one s.kinds[0] [] false (hnm _ (List.getElem_mem _)) (Nat.zero_le _)) rfl (rM.two (Fz.deep rfl) Fz.nil) (ej.fl _) ?_ |fail)
      refine ⟨[eS s.kinds[0].name], ⟨fun el hel => by rw [List.mem_singleton.1 hel]; rfl, rfl⟩, rfl, And.intro (Nat.le_of_ble_eq_true rfl) (Nat.le_of_ble_eq_true rfl), fun hn => absurd hn (by simp), fun _ => ?_⟩
      rw [show eY s.kinds[0] [] = lY s 0 from by rw [hce]; rfl]
      skip
      refine ⟨fun h2 => ?_, fun h2 => ?_⟩
      · have h2 : lY s 0 ≠ 0 := by simpa using h2
        repeat' (first |with_reducible (first|refine bg ?_|refine aT ?_) |fail)
        refine ⟨[_, _, _], ⟨Fz.deep rfl, Fz.deep rfl, Fz.deep rfl, trivial⟩, ?_⟩
        rw [La hb hmen hlt hprev h2]; rfl
      · have h2 : lY s 0 = 0 := by simpa using h2
        repeat' (first |with_reducible refine bO ?_ |refine u2 ?_ |fail)
        refine ⟨1, ⟨hlt, fun i hi => ?_⟩, (by dsimp only; omega), ai.to 1 ?_ ⟨rfl, rfl, rfl, trivial⟩ (Nat.zero_le _) rfl (xw s 1)⟩
        · rw [show i = 0 from by omega]; exact h2
        · show [AB.cells [ST s.kinds[0].name] 1 0] = [AB.cells ((s.kinds.take 1).map fun x => ST x.name) 1 0]
          rw [xx s hlt]
          rfl
    · exact absurd h (by simp only [ek, decide_eq_false_iff_not]; omega)
  | succ k =>
    have hlen : ((s.kinds.take (k + 1)).map fun x => ST x.name).length = k + 1 := by simp; omega
    refine aa (mu := fun t => Nat.beq t 66) ?_
    repeat' (first |with_reducible (first|refine bg ?_|refine aT ?_) |refine u2 ?_ |fail)
    refine ⟨fun h => ?_, fun h => ?_⟩
    · have hlt : k + 1 < s.kinds.length := by simpa only [ek, decide_eq_true_eq, Int.ofNat_lt] using h
      have hce := vG hlt
      have hz : rM (A3 s (k + 1)) [.ag (bG s.kinds[k + 1]), D2 (k + 1)] [.ag (bG s.kinds[k + 1]), .sl (((s.kinds.take (k + 1)).map (·.name)).map eS) false] :=
        rM.two (Fz.deep rfl) (uh _ (by simp; omega))
      repeat' (first |with_reducible (first|refine bO ?_|refine bg ?_|refine fK ?_|refine aT ?_|refine aU ?_) |refine u2 ?_ |refine ⟨bG s.kinds[k + 1], ⟨by omega, cq hlt⟩, rfl, ?_⟩ |(refine af.F3 (E6 one s.kinds[k + 1] ((s.kinds.take (k + 1)).map (·.name)) false (hnm _ (List.getElem_mem _)) (by simp; unfold maxLen; omega)) rfl hz (ej.fl _) ?_) |fail)
      refine ⟨[eS s.kinds[k + 1].name], ⟨fun el hel => by rw [List.mem_singleton.1 hel]; rfl, rfl⟩, rfl, _, rfl, by rw [Nat.mul_one]; exact hlen, Or.inr rfl, And.intro (by dsimp only [List.length]; omega) (by dsimp only [List.length]; omega), fun hn => absurd hn (by simp), fun _ => ?_⟩
      rw [← hce]
      skip
      refine ⟨fun h2 => ?_, fun h2 => ?_⟩
      · have h2 : lY s (k + 1) ≠ 0 := by simpa using h2
        repeat' (first |with_reducible (first|refine bg ?_|refine aT ?_) |fail)
        refine ⟨[_, _, _], ⟨Fz.deep rfl, Fz.deep rfl, Fz.deep rfl, trivial⟩, ?_⟩
        rw [La hb hmen hlt hprev h2]; rfl
      · have h2 : lY s (k + 1) = 0 := by simpa using h2
        repeat' (first |with_reducible refine bO ?_ |refine u2 ?_ |fail)
        refine ⟨k + 2, ⟨hlt, fun i hi => ?_⟩, (by dsimp only; omega), ai.to 1 ?_ ⟨rfl, rfl, aH (by simp; omega), trivial⟩ (Nat.zero_le _) rfl (xw s (k + 2))⟩
        · by_cases hik : i = k + 1
          · rw [hik]; exact h2
          · exact hprev i (by omega)
        · show [AB.cells (((s.kinds.take (k + 1)).map fun x => ST x.name) ++ [ST s.kinds[k + 1].name]) 1 (k + 1)] = [AB.cells ((s.kinds.take (k + 2)).map fun x => ST x.name) 1 (k + 1)]
          rw [xx s hlt]
    · have hkin : ∀ i, i < s.kinds.length → lY s i = 0 := fun i hi => hprev i (by simp only [ek, decide_eq_false_iff_not] at h; omega)
      clear hprev h
      skip
      refine az.aK (ai.to (l := [(1, .pt (aO s) 0), (9, ah ((0 : Nat) : Int))]) 0 rfl ⟨rfl, rfl, trivial⟩ (Nat.le_refl _) rfl rfl) ?_
      refine az.loop (fun k : Nat => k ≤ s.aj.length ∧ ∀ i, i < k → qu s i = 0) (fun k => ⟨aX [(1, .pt (aO s) 0), (9, ah (k : Int))], [], bN.none, false, 0⟩) (fun k => s.aj.length - k) ?_ 0 ⟨Nat.zero_le _, fun i hi => absurd hi (by omega)⟩
      intro k ⟨hk', hprev⟩
      refine aa (mu := fun t => Nat.beq t 66) ?_
      repeat' (first |with_reducible (first|refine bg ?_|refine aT ?_) |refine u2 ?_ |fail)
      refine ⟨fun h => ?_, fun h => ?_⟩
      · have hlt : k < s.aj.length := by simpa only [ec, decide_eq_true_eq, Int.ofNat_lt] using h
        have hce := E8 hlt
        unfold gO at hce
        simp only [dK] at hce
        repeat' (first |with_reducible (first|refine bO ?_|refine bg ?_|refine fK ?_|refine aT ?_|refine aU ?_) |(refine ⟨_, rfl, ?_⟩) |(refine bC (by assumption) ?_) |(refine bC rfl ?_) |(refine bS (by assumption) ?_) |(refine ⟨_, _, rfl, by decide, ?_⟩) |(refine ⟨_, _, rfl, _, rfl, ?_⟩) |(refine And.intro (Nat.le_of_ble_eq_true rfl) ?_) |(refine And.intro (by omega) ?_) |(refine And.intro (by kernel_rfl) ?_) |(refine ⟨bM s.aj[k], ⟨by omega, cq hlt⟩, rfl, ?_⟩) |(refine af.call (oY one _ _ _) rfl rfl ?_) |(refine ⟨_, _, rfl, rfl, rfl, rfl, Nat.le_of_ble_eq_true rfl, ?_⟩) |(refine ⟨fun h => ?_, fun h => ?_⟩) |fail)
        all_goals first
          | (refine ⟨[_, _, _], ⟨Fz.deep rfl, Fz.deep rfl, Fz.deep rfl, trivial⟩, ?_⟩
             first
               | (have hp : qu s k = 4 := by rw [hce]; simp_all
                  rw [Lc hb hmen hkin hlt hprev (by rw [hp]; decide), hp]; rfl)
               | (have hp : qu s k = 7 := by rw [hce]; simp_all
                  rw [Lc hb hmen hkin hlt hprev (by rw [hp]; decide), hp]; rfl))
          | (have hp : qu s k = 0 := by rw [hce]; simp_all
             refine ⟨k + 1, ⟨hlt, fun i hi => ?_⟩, (by dsimp only; omega), ai.to 0 rfl ⟨rfl, aH (by simp), trivial⟩ (Nat.le_refl _) rfl rfl⟩
             by_cases hik : i = k
             · rw [hik]; exact hp
             · exact hprev i (by omega))
      · skip
        refine ⟨[_, _, _], ⟨Fz.deep rfl, Fz.deep rfl, Fz.deep rfl, trivial⟩, ?_⟩
        rw [Ld hb hmen hkin fun i hi => hprev i (by simp only [ec, decide_eq_false_iff_not] at h; omega)]; rfl
end Go.Proofs.YtalcbebjpgfnfaaGreat.St
