/-
  Contracts of the program's functions and of the document's. Lemmas alone; their conditions stand in them.
-/
import Derived.Test.YtgdbfbalchdmcaaGreatK12
open Go Go.RM
namespace Go.Proofs.YtgdbfbalchdmcaaGreat.St
set_option maxRecDepth 100000
def dw (s:aC):Bool:=bH 1 30 [(s.ah.length:Int)] || bH 1 4 [(s.kinds.length:Int)] || decide (8 < (s.ai.length:Int))
theorem JQ {s:aC} (h:dw s=true):iD s=(1,0,3):=by
 unfold iD
 unfold dw at h
 rw [if_pos h]
theorem N3 {s:aC} (h:dw s=false) {k:Nat} (hk:k < s.ah.length) (hprev:∀ i (h:i < s.ah.length),i < k→bH 0 12 [s.ah[i]]=false) (hp:bH 0 12 [s.ah[k]]=true):iD s=(1,(k:Int),7):=by
 unfold iD
 unfold dw at h
 rw [if_neg (by rw [h];decide),jm hk hprev hp]
 simp
def pe (s:aC) (i:Nat):Int:=match s.kinds[i]? with|some k=>gI k ((s.kinds.take i).map (·.name))|none=>0
def rH (s:aC) (i:Nat):Int:=match s.ai[i]? with|some c=>ia s c|none=>0
theorem B3 {s:aC} {i:Nat} (h:i < s.kinds.length):pe s i=gI s.kinds[i] ((s.kinds.take i).map (·.name)):=by
 unfold pe
 rw [List.getElem?_eq_getElem h]
theorem Gn {s:aC} {i:Nat} (h:i < s.ai.length):rH s i=ia s s.ai[i]:=by
 unfold rH
 rw [List.getElem?_eq_getElem h]
theorem ud {s:aC} (h:dw s=false) (h1:∀ i (h:i < s.ah.length),bH 0 12 [s.ah[i]]=false):iD s =
  if (bq s.kinds.length (pe s)).2 ≠ 0 then (2,(bq s.kinds.length (pe s)).1,(bq s.kinds.length (pe s)).2)
  else if (bq s.ai.length (rH s)).2 ≠ 0 then (3,(bq s.ai.length (rH s)).1,(bq s.ai.length (rH s)).2) else (0,0,0):=by
 unfold iD
 unfold dw at h
 rw [if_neg (by rw [h];decide),jn h1]
 rfl
theorem Md {s:aC} (h:dw s=false) (h1:∀ i (h:i < s.ah.length),bH 0 12 [s.ah[i]]=false) {k:Nat} (hk:k < s.kinds.length) (hprev:∀ i,i < k→pe s i=0) (hp:pe s k ≠ 0):iD s=(2,(k:Int),pe s k):=by
 rw [ud h h1,fj hk hprev hp,if_pos hp]
theorem Me {s:aC} (h:dw s=false) (h1:∀ i (h:i < s.ah.length),bH 0 12 [s.ah[i]]=false) (h2:∀ i,i < s.kinds.length→pe s i=0) {k:Nat} (hk:k < s.ai.length) (hprev:∀ i,i < k→rH s i=0) (hp:rH s k ≠ 0):iD s=(3,(k:Int),rH s k):=by
 rw [ud h h1,dS h2,fj hk hprev hp,if_neg (by simp),if_pos hp]
theorem Mf {s:aC} (h:dw s=false) (h1:∀ i (h:i < s.ah.length),bH 0 12 [s.ah[i]]=false) (h2:∀ i,i < s.kinds.length→pe s i=0) (h3:∀ i,i < s.ai.length→rH s i=0):iD s=(0,0,0):=by
 rw [ud h h1,dS h2,dS h3,if_neg (by simp),if_neg (by simp)]
theorem DS {s:aC} (h:dw s=false):(1≤s.ah.length∧s.ah.length≤30)∧(1≤s.kinds.length∧s.kinds.length≤4)∧s.ai.length≤8:=by
 unfold dw at h
 simp only [bp,Bool.or_eq_false_iff,Bool.not_eq_false',bQ,decide_eq_false_iff_not] at h
 omega
def Fu:Nat→AV
 | 0=>.fl (.slice none 0 0)
 | k+1=>.dM 0 k 0 (k+1) (k+2)
def B4 (s:aC):Nat→List AB
 | 0=>[]
 | k+1=>[.cells ((s.kinds.take (k+1)).map fun x=>ST x.name) 1 k]
theorem yQ (s:aC) (k:Nat):(B4 s k).all (AB.gM 1)=true:=by
 cases k with
 | zero=>rfl
 | succ k =>
  simp only [B4,List.all_cons,List.all_nil,Bool.and_true,AB.gM]
  induction s.kinds.take (k+1) with
  | nil=>rfl
  | cons a l ih=>exact ih
theorem yR (s:aC) {k:Nat} (h:k < s.kinds.length):(s.kinds.take (k+1)).map (fun x=>ST x.name)=(s.kinds.take k).map (fun x=>ST x.name)++[ST s.kinds[k].name]:=by
 rw [List.take_add_one,List.getElem?_eq_getElem h,List.map_append]
 rfl
theorem yS (l:List Kind):((l.map (·.name)).map eS).flatten=l.map (fun x=>ST x.name):=by
 induction l with
 | nil=>rfl
 | cons a l ih =>
  simp only [List.map_cons,List.flatten_cons,ih]
  rfl
theorem DT (l:List Kind):bU (l.map (fun x=>ST x.name))=true:=by
 induction l with
 | nil=>rfl
 | cons a l ih=>exact ih
theorem HD (l:List Kind) {n v c:Nat} (h:l.length=n):Fz [.cells (l.map fun x=>ST x.name) 1 v] (.dM 0 v 0 n c) (.sl ((l.map (·.name)).map eS) false) :=
 Fz.row (es:=1) rfl (by simp;omega) (by simp;omega) (fun el hel=>by obtain ⟨x,_,rfl⟩:=List.mem_map.1 hel;rfl) (by rw [yS,List.drop_zero,List.take_of_length_le (by simp;omega)]) (by rw [yS];exact DT _) (fun h=>Bool.noConfusion h)
theorem yz (s : aC) (h : s.Ok) (one : Bool) : Pu one 5 [.ag (aF s)] (.tp [ak (iD s).1, ak (iD s).2.1, ak (iD s).2.2]) := by
  have hm := h.ah
  have hk := h.kinds
  have hc := h.ai
  have hnm := h.names
  have em : ((s.ah.map eI).length : Int) = s.ah.length := by simp
  have ek : ((s.kinds.map bD).length : Int) = s.kinds.length := by simp
  have ec : ((s.ai.map cr).length : Int) = s.ai.length := by simp
  unfold maxLen at hm hk hc
  refine af.body (fn := Tryz.f5) rfl rfl rfl rfl ?_
  refine aa (mu := fun t => Nat.beq t 66) ?_
  repeat' (first |with_reducible (first|refine bZ ?_|refine bl ?_|refine bg ?_|refine bf ?_) |(refine ⟨_, rfl, ?_⟩) |(refine bJ (by assumption) ?_) |(refine bJ rfl ?_) |(refine cu rfl ?_) |(refine cu (by assumption) ?_) |(refine ⟨_, _, rfl, by decide, ?_⟩) |(refine ⟨rfl, rfl, rfl, ?_⟩) |(refine af.call (gC one _ _ _) rfl rfl ?_) |(refine ⟨fun h => ?_, fun h => ?_⟩) |fail)
  all_goals first
    | (have hb : dw s = true := by
         unfold dw
         simp only [bp]
         simp_all
       rw [JQ hb]
       exact ⟨[_, _, _], ⟨Fz.deep rfl, Fz.deep rfl, Fz.deep rfl, trivial⟩, rfl⟩)
    | skip
  have hb : dw s = false := by
    unfold dw
    simp only [bp]
    simp_all
  obtain ⟨⟨m1, m2⟩, ⟨k1, k2⟩, c1⟩ := DS hb
  skip
  refine aG.aU (aj.to (l := [(1, .pt (aF s) 0), (5, ak ((0 : Nat) : Int))]) 0 rfl ⟨rfl, rfl, trivial⟩ (Nat.le_refl _) rfl rfl) ?_
  refine aG.loop (fun k : Nat => k ≤ s.ah.length ∧ ∀ i (h : i < s.ah.length), i < k → bH 0 12 [s.ah[i]] = false) (fun k => ⟨bT [(1, .pt (aF s) 0), (5, ak (k : Int))], [], bW.none, false, 0⟩) (fun k => s.ah.length - k) ?_ 0 ⟨Nat.zero_le _, fun i _ hi => absurd hi (by omega)⟩
  intro k ⟨hk', hprev⟩
  refine aa (mu := fun t => Nat.beq t 66) ?_
  repeat' (first |with_reducible (first|refine bl ?_|refine bg ?_) |refine u2 ?_ |fail)
  refine ⟨fun h => ?_, fun h => ?_⟩
  · have hlt : k < s.ah.length := by simpa using h
    repeat' (first |with_reducible (first|refine bZ ?_|refine bl ?_|refine fN ?_|refine bg ?_|refine bf ?_) |refine u2 ?_ |refine ⟨eI s.ah[k], ⟨by omega, bP hlt⟩, rfl, ?_⟩ |refine af.call (gC one _ _ _) rfl rfl ?_ |fail)
    refine ⟨fun h2 => ?_, fun h2 => ?_⟩
    · repeat' (first |with_reducible (first|refine bl ?_|refine bg ?_) |fail)
      refine ⟨[_, _, _], ⟨Fz.deep rfl, Fz.deep rfl, Fz.deep rfl, trivial⟩, ?_⟩
      rw [N3 hb hlt hprev (by rw [bp]; exact h2)]; rfl
    · repeat' (first |with_reducible refine bZ ?_ |refine u2 ?_ |fail)
      refine ⟨k + 1, ⟨hlt, fun i hi hik => ?_⟩, (by dsimp only; omega), aj.to 0 rfl ⟨rfl, aJ (by simp), trivial⟩ (Nat.le_refl _) rfl rfl⟩
      by_cases hik' : i = k
      · subst hik'; rw [bp]; exact h2
      · exact hprev i hi (by omega)
  have hmen : ∀ i (h : i < s.ah.length), bH 0 12 [s.ah[i]] = false := fun i hi => hprev i hi (by simp at h; omega)
  clear hprev h
  skip
  refine aG.aU (aj.to (l := [(1, .pt (aF s) 0), (6, Fu 0), (7, ak ((0 : Nat) : Int))]) 0 rfl ⟨rfl, rfl, rfl, trivial⟩ (Nat.le_refl _) rfl rfl) ?_
  refine aG.loop (fun k : Nat => k ≤ s.kinds.length ∧ ∀ i, i < k → pe s i = 0) (fun k => ⟨bT [(1, .pt (aF s) 0), (6, Fu k), (7, ak (k : Int))], B4 s k, bW.none, false, 0⟩) (fun k => s.kinds.length - k) ?_ 0 ⟨Nat.zero_le _, fun i hi => absurd hi (by omega)⟩
  intro k ⟨hk', hprev⟩
  cases k with
  | zero =>
    refine aa (mu := fun t => Nat.beq t 66) ?_
    repeat' (first |with_reducible (first|refine bl ?_|refine bg ?_) |refine u2 ?_ |fail)
    refine ⟨fun h => ?_, fun h => ?_⟩
    · have hlt : 0 < s.kinds.length := k1
      have hce := B3 hlt
      repeat' (first |with_reducible (first|refine bZ ?_|refine bl ?_|refine fN ?_|refine bg ?_|refine bf ?_) |refine u2 ?_ |refine ⟨bD s.kinds[0], ⟨by omega, bP hlt⟩, rfl, ?_⟩ |refine af.KF (Gl one s.kinds[0] [] false (hnm _ (List.getElem_mem _)) (Nat.zero_le _)) rfl (Dl.two (Fz.deep rfl) Fz.nil) (js.fl _) ?_ |fail)
      refine ⟨[eS s.kinds[0].name], ⟨fun el hel => by rw [List.mem_singleton.1 hel]; rfl, rfl⟩, rfl, And.intro (Nat.le_of_ble_eq_true rfl) (Nat.le_of_ble_eq_true rfl), fun hn => absurd hn (by simp), fun _ => ?_⟩
      rw [show gI s.kinds[0] [] = pe s 0 from by rw [hce]; rfl]
      skip
      refine ⟨fun h2 => ?_, fun h2 => ?_⟩
      · have h2 : pe s 0 ≠ 0 := by simpa using h2
        repeat' (first |with_reducible (first|refine bl ?_|refine bg ?_) |fail)
        refine ⟨[_, _, _], ⟨Fz.deep rfl, Fz.deep rfl, Fz.deep rfl, trivial⟩, ?_⟩
        rw [Md hb hmen hlt hprev h2]; rfl
      · have h2 : pe s 0 = 0 := by simpa using h2
        repeat' (first |with_reducible refine bZ ?_ |refine u2 ?_ |fail)
        refine ⟨1, ⟨hlt, fun i hi => ?_⟩, (by dsimp only; omega), aj.to 1 ?_ ⟨rfl, rfl, rfl, trivial⟩ (Nat.zero_le _) rfl (yQ s 1)⟩
        · rw [show i = 0 from by omega]; exact h2
        · show [AB.cells [ST s.kinds[0].name] 1 0] = [AB.cells ((s.kinds.take 1).map fun x => ST x.name) 1 0]
          rw [yR s hlt]
          rfl
    · exact absurd h (by simp only [ek, decide_eq_false_iff_not]; omega)
  | succ k =>
    have hlen : ((s.kinds.take (k + 1)).map fun x => ST x.name).length = k + 1 := by simp; omega
    refine aa (mu := fun t => Nat.beq t 66) ?_
    repeat' (first |with_reducible (first|refine bl ?_|refine bg ?_) |refine u2 ?_ |fail)
    refine ⟨fun h => ?_, fun h => ?_⟩
    · have hlt : k + 1 < s.kinds.length := by simpa only [ek, decide_eq_true_eq, Int.ofNat_lt] using h
      have hce := B3 hlt
      have hz : Dl (B4 s (k + 1)) [.ag (bD s.kinds[k + 1]), Fu (k + 1)] [.ag (bD s.kinds[k + 1]), .sl (((s.kinds.take (k + 1)).map (·.name)).map eS) false] :=
        Dl.two (Fz.deep rfl) (HD _ (by simp; omega))
      repeat' (first |with_reducible (first|refine bZ ?_|refine bl ?_|refine fN ?_|refine bg ?_|refine bf ?_) |refine u2 ?_ |refine ⟨bD s.kinds[k + 1], ⟨by omega, bP hlt⟩, rfl, ?_⟩ |(refine af.KF (Gl one s.kinds[k + 1] ((s.kinds.take (k + 1)).map (·.name)) false (hnm _ (List.getElem_mem _)) (by simp; unfold maxLen; omega)) rfl hz (js.fl _) ?_) |fail)
      refine ⟨[eS s.kinds[k + 1].name], ⟨fun el hel => by rw [List.mem_singleton.1 hel]; rfl, rfl⟩, rfl, .inl ⟨rfl, _, rfl, by rw [Nat.mul_one]; exact hlen, Or.inr rfl, And.intro (by dsimp only [List.length]; omega) (by dsimp only [List.length]; omega), fun hn => absurd hn (by simp), fun _ => ?_⟩⟩
      rw [← hce]
      skip
      refine ⟨fun h2 => ?_, fun h2 => ?_⟩
      · have h2 : pe s (k + 1) ≠ 0 := by simpa using h2
        repeat' (first |with_reducible (first|refine bl ?_|refine bg ?_) |fail)
        refine ⟨[_, _, _], ⟨Fz.deep rfl, Fz.deep rfl, Fz.deep rfl, trivial⟩, ?_⟩
        rw [Md hb hmen hlt hprev h2]; rfl
      · have h2 : pe s (k + 1) = 0 := by simpa using h2
        repeat' (first |with_reducible refine bZ ?_ |refine u2 ?_ |fail)
        refine ⟨k + 2, ⟨hlt, fun i hi => ?_⟩, (by dsimp only; omega), aj.to 1 ?_ ⟨rfl, rfl, aJ (by simp; omega), trivial⟩ (Nat.zero_le _) rfl (yQ s (k + 2))⟩
        · by_cases hik : i = k + 1
          · rw [hik]; exact h2
          · exact hprev i (by omega)
        · show [AB.cells (((s.kinds.take (k + 1)).map fun x => ST x.name) ++ [ST s.kinds[k + 1].name]) 1 (k + 1)] = [AB.cells ((s.kinds.take (k + 2)).map fun x => ST x.name) 1 (k + 1)]
          rw [yR s hlt]
    · have hkin : ∀ i, i < s.kinds.length → pe s i = 0 := fun i hi => hprev i (by simp only [ek, decide_eq_false_iff_not] at h; omega)
      clear hprev h
      skip
      refine aG.aU (aj.to (l := [(1, .pt (aF s) 0), (9, ak ((0 : Nat) : Int))]) 0 rfl ⟨rfl, rfl, trivial⟩ (Nat.le_refl _) rfl rfl) ?_
      refine aG.loop (fun k : Nat => k ≤ s.ai.length ∧ ∀ i, i < k → rH s i = 0) (fun k => ⟨bT [(1, .pt (aF s) 0), (9, ak (k : Int))], [], bW.none, false, 0⟩) (fun k => s.ai.length - k) ?_ 0 ⟨Nat.zero_le _, fun i hi => absurd hi (by omega)⟩
      intro k ⟨hk', hprev⟩
      refine aa (mu := fun t => Nat.beq t 66) ?_
      repeat' (first |with_reducible (first|refine bl ?_|refine bg ?_) |refine u2 ?_ |fail)
      refine ⟨fun h => ?_, fun h => ?_⟩
      · have hlt : k < s.ai.length := by simpa only [ec, decide_eq_true_eq, Int.ofNat_lt] using h
        have hce := Gn hlt
        unfold ia at hce
        simp only [bp] at hce
        repeat' (first |with_reducible (first|refine bZ ?_|refine bl ?_|refine fN ?_|refine bg ?_|refine bf ?_) |(refine ⟨_, rfl, ?_⟩) |(refine bJ (by assumption) ?_) |(refine bJ rfl ?_) |(refine cu (by assumption) ?_) |(refine ⟨_, _, rfl, by decide, ?_⟩) |(refine ⟨_, _, rfl, _, rfl, ?_⟩) |(refine And.intro (Nat.le_of_ble_eq_true rfl) ?_) |(refine And.intro (by omega) ?_) |(refine And.intro (by kernel_rfl) ?_) |(refine ⟨cr s.ai[k], ⟨by omega, bP hlt⟩, rfl, ?_⟩) |(refine af.call (gC one _ _ _) rfl rfl ?_) |(refine ⟨_, _, rfl, rfl, rfl, rfl, Nat.le_of_ble_eq_true rfl, ?_⟩) |(refine ⟨fun h => ?_, fun h => ?_⟩) |fail)
        all_goals first
          | (refine ⟨[_, _, _], ⟨Fz.deep rfl, Fz.deep rfl, Fz.deep rfl, trivial⟩, ?_⟩
             first
               | (have hp : rH s k = 4 := by rw [hce]; simp_all
                  rw [Me hb hmen hkin hlt hprev (by rw [hp]; decide), hp]; rfl)
               | (have hp : rH s k = 7 := by rw [hce]; simp_all
                  rw [Me hb hmen hkin hlt hprev (by rw [hp]; decide), hp]; rfl))
          | (have hp : rH s k = 0 := by rw [hce]; simp_all
             refine ⟨k + 1, ⟨hlt, fun i hi => ?_⟩, (by dsimp only; omega), aj.to 0 rfl ⟨rfl, aJ (by simp), trivial⟩ (Nat.le_refl _) rfl rfl⟩
             by_cases hik : i = k
             · rw [hik]; exact hp
             · exact hprev i (by omega))
      · skip
        refine ⟨[_, _, _], ⟨Fz.deep rfl, Fz.deep rfl, Fz.deep rfl, trivial⟩, ?_⟩
        rw [Mf hb hmen hkin fun i hi => hprev i (by simp only [ec, decide_eq_false_iff_not] at h; omega)]; rfl
end Go.Proofs.YtgdbfbalchdmcaaGreat.St
