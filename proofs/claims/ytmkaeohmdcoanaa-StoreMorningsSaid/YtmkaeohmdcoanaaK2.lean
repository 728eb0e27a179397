/-
  Contracts of the program's functions and of the document's. Lemmas alone; their conditions stand in them.
-/
import Derived.Test.YtmkaeohmdcoanaaA2
import Derived.Test.YtmkaeohmdcoanaaX1
import Derived.Test.YtmkaeohmdcoanaaK1
import Derived.IntWalk
import Derived.Test.YtmkaeohmdcoanaaRows
open Go Go.RM
namespace Go.Proofs.Ytmkaeohmdcoanaa
set_option maxRecDepth 100000

/-! ### A stock that is opened -/

def addCargo (k : Int) (l : List Int) (c : Cargo) : List Int := if c.kind = k then l.set c.day.toNat (l.getD c.day.toNat 0 + c.amount) else l
def cargoRow (k : Int) (cs : List Cargo) : List Int := cs.foldl (addCargo k) (List.replicate 30 0)

theorem addCargo_length {k : Int} {l : List Int} {c : Cargo} : (addCargo k l c).length = l.length := by
  unfold addCargo
  split <;> simp

theorem cargoRow_snoc (k : Int) (cs : List Cargo) (c : Cargo) : cargoRow k (cs ++ [c]) = addCargo k (cargoRow k cs) c := by
  simp [cargoRow]

structure RowOk (n : Nat) (l : List Int) : Prop where
  len : l.length = 30
  bnd : ∀ x ∈ l, 0 ≤ x ∧ x ≤ 300 * n

theorem RowOk.zero {k : Int} : RowOk 0 (cargoRow k []) := ⟨by simp [cargoRow], fun x hx => by simp [cargoRow] at hx; omega⟩

theorem RowOk.get {n : Nat} {l : List Int} (h : RowOk n l) {d : Nat} (hd : d < 30) : 0 ≤ l.getD d 0 ∧ l.getD d 0 ≤ 300 * n := by
  have : d < l.length := by rw [h.len]; exact hd
  rw [List.getD_eq_getElem?_getD, List.getElem?_eq_getElem this]
  exact h.bnd _ (List.getElem_mem _)

theorem RowOk.add {n : Nat} {l : List Int} (h : RowOk n l) {k : Int} {c : Cargo} (hd : 0 ≤ c.day ∧ c.day < 30) (ha : 0 ≤ c.amount ∧ c.amount ≤ 300) : RowOk (n + 1) (addCargo k l c) := by
  refine ⟨by rw [addCargo_length]; exact h.len, fun x hx => ?_⟩
  unfold addCargo at hx
  split at hx
  · rcases List.mem_or_eq_of_mem_set hx with hx | rfl
    · have := h.bnd x hx; omega
    · have := h.get (d := c.day.toNat) (by omega); omega
  · have := h.bnd x hx; omega

theorem cargoRow_ok {k : Int} : ∀ {cs : List Cargo}, (∀ c ∈ cs, (0 ≤ c.day ∧ c.day < 30) ∧ 0 ≤ c.amount ∧ c.amount ≤ 300) → RowOk cs.length (cargoRow k cs) := by
  intro cs h
  have key : ∀ (cs : List Cargo) (l : List Int) (n : Nat), RowOk n l → (∀ c ∈ cs, (0 ≤ c.day ∧ c.day < 30) ∧ 0 ≤ c.amount ∧ c.amount ≤ 300) → RowOk (n + cs.length) (cs.foldl (addCargo k) l) := by
    intro cs
    induction cs with
    | nil => intro l n h _; exact h
    | cons c cs ih =>
      intro l n h1 h2
      have := ih _ (n + 1) (h1.add (k := k) (h2 c (by simp)).1 (h2 c (by simp)).2) (fun x hx => h2 x (List.mem_cons_of_mem _ hx))
      rw [List.foldl_cons, List.length_cons, show n + (cs.length + 1) = n + 1 + cs.length from by omega]
      exact this
  have := key cs _ 0 (RowOk.zero (k := k)) h
  rwa [Nat.zero_add] at this

noncomputable def z109 : List AV := match TT.ty.get 109 with | some ⟨_, _, _, some z, _, _, _⟩ => z.cells.toList.map .fl | _ => []

abbrev eC (n : Int) : AV := I64 n
def preH (s : Stores) (k : Kind) : List AV := eStores s ++ eKind k
abbrev nilV : AV := .fl (.slice none 0 0)
abbrev eHoldV (s : Stores) (k : Kind) (row : List Int) (c : AV) : List AV := preH s k ++ (row.map eC ++ [c])

theorem inbL_append {n : Nat} {a b : List AV} (h : inbL n a = true) (k : inbL n b = true) : inbL n (a ++ b) = true := by
  induction a with
  | nil => exact k
  | cons x a ih =>
    simp only [inbL, Bool.and_eq_true] at h
    simp only [List.cons_append, inbL, Bool.and_eq_true]
    exact ⟨h.1, ih h.2⟩

theorem deepL_append {a b : List AV} (h : deepL a = true) (k : deepL b = true) : deepL (a ++ b) = true := by
  induction a with
  | nil => exact k
  | cons x a ih =>
    simp only [deepL, Bool.and_eq_true] at h
    simp only [List.cons_append, deepL, Bool.and_eq_true]
    exact ⟨h.1, ih h.2⟩

theorem deepL_ints (l : List Int) : deepL (l.map eC) = true := by
  induction l with
  | nil => rfl
  | cons a l ih => exact ih

theorem eHold_deep {s : Stores} {k : Kind} {row : List Int} {c : AV} (h : c.deep = true) : (AV.ag (eHoldV s k row c)).deep = true :=
  deepL_append rfl (deepL_append (deepL_ints row) (by simp [deepL, h]))

theorem hold_len {s : Stores} {k : Kind} {row : List Int} {c : AV} (h : row.length = 30) : (eHoldV s k row c).length = 43 := by
  simp [eHoldV, preH, h]

theorem hold_get {s : Stores} {k : Kind} {row : List Int} {c : AV} {d : Nat} (h : d < row.length) : (eHoldV s k row c)[0 + 12 + d * 1]? = some (I64 (row.getD d 0)) := by
  rw [List.getElem?_append_right (by simp [preH]), List.getElem?_append_left (by simp [preH]; omega), List.getElem?_map]
  have e : 0 + 12 + d * 1 - (preH s k).length = d := by simp [preH]
  rw [e, List.getD_eq_getElem?_getD, List.getElem?_eq_getElem h]
  rfl

theorem hold_getc {s : Stores} {k : Kind} {row : List Int} {c : AV} (h : row.length = 30) : (eHoldV s k row c)[0 + 42]? = some c := by
  rw [List.getElem?_append_right (by simp [preH]), List.getElem?_append_right (by simp [preH, h])]
  have e : 0 + 42 - (preH s k).length - (row.map eC).length = 0 := by simp [preH, h]
  rw [e]
  rfl

theorem hold_putc {s : Stores} {k : Kind} {row : List Int} {c : AV} (h : row.length = 30) (x : AV) : spliceV (eHoldV s k row c) [x] (0 + 42) = eHoldV s k row x := by
  have e : (preH s k).length = 12 := by simp [preH]
  have h1 : spliceV (eHoldV s k row c) [x] (0 + 42) = (eHoldV s k row c).set (0 + 42) x := by
    rw [List.set_eq_take_append_cons_drop, if_pos (by simp [eHoldV, preH]; omega)]
    unfold spliceV
    simp
  rw [h1, List.set_append_right _ _ (by omega), List.set_append_right _ _ (by simp [e]; omega), e, List.length_map, h]
  rfl

theorem hold_put {s : Stores} {k : Kind} {row : List Int} {c : AV} {d : Nat} (h : d < row.length) (v : Int) : spliceV (eHoldV s k row c) [I64 v] (0 + 12 + d * 1) = eHoldV s k (row.set d v) c := by
  have e : (preH s k).length = 12 := by simp [preH]
  have h1 : spliceV (eHoldV s k row c) [I64 v] (0 + 12 + d * 1) = (eHoldV s k row c).set (0 + 12 + d * 1) (I64 v) := by
    rw [List.set_eq_take_append_cons_drop, if_pos (by simp [eHoldV, preH]; omega)]
    unfold spliceV
    simp
  rw [h1, List.set_append_right _ _ (by omega), List.set_append_left _ _ (by simp [e]; omega), e, show 0 + 12 + d * 1 - 12 = d from by omega]
  show _ = preH s k ++ ((row.set d v).map eC ++ [c])
  rw [List.map_set]

theorem hold_inb {s : Stores} {k : Kind} {row : List Int} {c : AV} {n : Nat} (h : c.inb n = true) : ([.cells z109 0 0, .cells (eHoldV s k row c) 0 0] : List AB).all (AB.inb n) = true := by
  have e : inbL n (eHoldV s k row c) = true := by
    refine inbL_append rfl (inbL_append ?_ (by simp [inbL, h]))
    induction row with
    | nil => rfl
    | cons a l ih => exact ih
  simp only [List.all_cons, AB.inb, e, List.all_nil, Bool.and_true]
  rfl

def cntB : List Count → List AB
  | [] => []
  | c :: l => [.cells (eCount c) 0 0, .cells ((c :: l).map eCount).flatten 4 l.length]
def cntV : List Count → AV
  | [] => nilV
  | _ :: l => .osl 3 l.length 0 (l.length + 1) (l.length + 2)

theorem cntV_inb (f : List Count) : (cntV f).inb (2 + (cntB f).length) = true := by
  cases f <;> rfl

theorem deepL_counts (l : List Count) : deepL (l.map eCount).flatten = true := by
  induction l with
  | nil => rfl
  | cons a l ih => exact ih

theorem flat_counts_len (l : List Count) : (l.map eCount).flatten.length = l.length * 4 := by
  induction l with
  | nil => rfl
  | cons a l ih =>
    simp only [List.map_cons, List.flatten_cons, List.length_append, ih, List.length_cons, List.length_nil]
    omega

theorem inbL_counts (n : Nat) (l : List Count) : inbL n (l.map eCount).flatten = true := by
  induction l with
  | nil => rfl
  | cons a l ih => exact ih

theorem cntB_inb (n : Nat) (f : List Count) : (cntB f).all (AB.inb n) = true := by
  cases f with
  | nil => rfl
  | cons c l =>
    simp only [cntB, List.all_cons, AB.inb, inbL_counts, List.all_nil, Bool.and_true]
    rfl

theorem Fz.agSnoc {hp : List AB} {l : List AV} {x y : AV} (hl : deepL l = true) (h : Fz hp x y) : Fz hp (.ag (l ++ [x])) (.ag (l ++ [y])) := by
  refine Fz.ag (by simp) (fun i a b ha hb => ?_)
  by_cases hi : i < l.length
  · rw [List.getElem?_append_left hi] at ha hb
    rw [ha] at hb
    cases hb
    exact Fz.deep (deepL_get hl i a ha)
  · rw [List.getElem?_append_right (by omega)] at ha hb
    cases hii : i - l.length with
    | zero => rw [hii] at ha hb; cases ha; cases hb; exact h
    | succ n => rw [hii] at ha; cases ha

theorem cnt_fz (a b : AB) (f : List Count) : Fz (a :: b :: cntB f) (cntV f) (.sl (f.map eCount) false) := by
  cases f with
  | nil => exact Fz.nil
  | cons c l => exact Fz.row (es := 4) rfl (by rw [flat_counts_len]; simp) (by simp) (fun el hel => by obtain ⟨x, _, rfl⟩ := List.mem_map.1 hel; rfl) (by rw [List.drop_zero, List.take_of_length_le (by rw [flat_counts_len]; simp)]) (deepL_counts _) (fun h => Bool.noConfusion h)

theorem hp_inb {s : Stores} {k : Kind} {row : List Int} {f : List Count} : (.cells z109 0 0 :: .cells (eHoldV s k row (cntV f)) 0 0 :: cntB f : List AB).all (AB.inb 4) = true := by
  have h := hold_inb (s := s) (k := k) (row := row) (c := cntV f) (n := 4) (by cases f <;> rfl)
  simp only [List.all_cons, List.all_nil, Bool.and_true, Bool.and_eq_true] at h ⊢
  exact ⟨h.1, h.2, cntB_inb 4 f⟩

theorem cntV_snoc (c0 c : Count) (f : List Count) : cntV (c0 :: (f ++ [c])) = .osl 3 (f.length + 1) 0 (f.length + 1 + 1) (f.length + 1 + 1 + 1) := by simp [cntV]
theorem cntB_snoc (c0 c : Count) (f : List Count) : cntB (c0 :: (f ++ [c])) = [.cells (eCount c0) 0 0, .cells (((c0 :: f).map eCount).flatten ++ [eCount c].flatten) 4 (f.length + 1)] := by simp [cntB]

theorem hold_all {s : Stores} {k : Kind} {row : List Int} {c : AV} (h : row.length = 30) : List.take 43 (List.drop 0 (eHoldV s k row c)) = eHoldV s k row c := by
  rw [List.drop_zero, List.take_of_length_le (by rw [hold_len h]; omega)]

theorem hold_one {s : Stores} {k : Kind} {row : List Int} {f : List Count} : (AV.ag (eHoldV s k row (cntV f))).cells.all AV.one = true := by
  show (eHoldV s k row (cntV f)).all AV.one = true
  have h1 : (row.map eC).all AV.one = true := by
    induction row with
    | nil => rfl
    | cons a l ih => exact ih
  rw [List.all_append, List.all_append, h1]
  cases f <;> rfl

theorem hold_fz {s : Stores} {k : Kind} {row : List Int} {f : List Count} {a b : AB} : Fz (a :: b :: cntB f) (.ag (eHoldV s k row (cntV f))) (.ag (eHoldV s k row (.sl (f.map eCount) false))) := by
  have h : ∀ c : AV, eHoldV s k row c = (preH s k ++ row.map eC) ++ [c] := fun c => by simp [eHoldV]
  rw [h, h]
  exact Fz.agSnoc (deepL_append rfl (deepL_ints row)) (cnt_fz a b f)

theorem open_c (one : Bool) (s : Stores) (counts : List Count) (full : Bool) (i : Nat) (hi : i < s.kinds.length) (hc : ∀ c ∈ s.cargos, (0 ≤ c.day ∧ c.day < 30) ∧ 0 ≤ c.amount ∧ c.amount ≤ 300) (hl : s.cargos.length ≤ 8) (hn : counts.length ≤ 1000) :
    Pu one 60 [.ag (eStores s), .sl (counts.map eCount) full, I64 i] (.ag (eHoldV s s.kinds[i] (cargoRow i s.cargos) (.sl ((counts.filter (fun c => decide (c.kind = (i : Int)))).map eCount) false))) := by
  have ec : ((s.cargos.map eCargo).length : Int) = s.cargos.length := by simp
  have en : ((counts.map eCount).length : Int) = counts.length := by simp
  refine PureV.body (fn := Try.f60) rfl rfl rfl (eHold_deep rfl) ?_
  refine wpC_sound (mu := fun t => Nat.beq t 55) ?_
  repeat' (first
      | (with_reducible refine wpC_skip ?_)
      | (with_reducible refine wpC_seq ?_)
      | (with_reducible refine wpC_block ?_)
      | (with_reducible refine wpC_drawL ?_)
      | (with_reducible refine wpC_opsL ?_)
      | (with_reducible refine wpC_draw ?_)
      | (with_reducible refine wpC_ops ?_)
      | (with_reducible refine wpOps_nil ?_)
      | (first
          | (with_reducible refine wpOps_cons ?_)
          | (with_reducible refine wpDraw_cons ?_)
         first
          | (with_reducible refine wpGuard_none ?_)
          | (refine wpGuard_yes rfl rfl rfl ?_)
          | (refine wpGuard_no rfl rfl rfl ?_)
          | (refine wpGuard_yes rfl rfl (by assumption) ?_)
          | (refine wpGuard_no rfl rfl (by assumption) ?_)
          | (refine wpGuard_skip rfl rfl ?_)
          | skip)
      | (with_reducible refine putS_some ?_)
      | (with_reducible refine putS_none ?_)
      | (with_reducible refine seqQ_normal ?_)
      | (refine ⟨_, rfl, ?_⟩)
      | (refine guardYes (by assumption) ?_)
      | (refine guardYes rfl ?_)
      | (refine guardNo rfl ?_)
      | (refine guardNo (by assumption) ?_)
      | (refine ⟨_, _, rfl, by decide, ?_⟩)
      | (refine ⟨rfl, rfl, rfl, ?_⟩)
      | (refine ⟨rfl, rfl, ?_⟩)
      | (refine ⟨_, _, rfl, _, rfl, ?_⟩)
      | (refine And.intro (Nat.le_of_ble_eq_true rfl) ?_)
      | (refine And.intro (by omega) ?_)
      | (refine ⟨_, _, rfl, rfl, _, rfl, rfl, ?_⟩)
      | (refine And.intro (by kernel_rfl) ?_)
      | (refine ⟨rfl, rfl, rfl, rfl, rfl, ?_⟩)
      | (refine ⟨eKind s.kinds[i], ⟨by omega, map_at hi⟩, rfl, ?_⟩)
      | fail)
  refine ⟨_, _, rfl, rfl, rfl, rfl, Nat.le_of_ble_eq_true rfl, ?_⟩
  repeat' (first
      | (with_reducible refine wpC_skip ?_)
      | (with_reducible refine wpC_seq ?_)
      | (with_reducible refine wpC_block ?_)
      | (with_reducible refine wpC_drawL ?_)
      | (with_reducible refine wpC_opsL ?_)
      | (with_reducible refine wpC_draw ?_)
      | (with_reducible refine wpC_ops ?_)
      | (with_reducible refine wpOps_nil ?_)
      | (first
          | (with_reducible refine wpOps_cons ?_)
          | (with_reducible refine wpDraw_cons ?_)
         first
          | (with_reducible refine wpGuard_none ?_)
          | (refine wpGuard_yes rfl rfl rfl ?_)
          | (refine wpGuard_no rfl rfl rfl ?_)
          | (refine wpGuard_yes rfl rfl (by assumption) ?_)
          | (refine wpGuard_no rfl rfl (by assumption) ?_)
          | (refine wpGuard_skip rfl rfl ?_)
          | skip)
      | (with_reducible refine putS_some ?_)
      | (with_reducible refine putS_none ?_)
      | (with_reducible refine seqQ_normal ?_)
      | (refine ⟨_, rfl, ?_⟩)
      | (refine guardYes (by assumption) ?_)
      | (refine guardYes rfl ?_)
      | (refine guardNo rfl ?_)
      | (refine guardNo (by assumption) ?_)
      | (refine ⟨_, _, rfl, by decide, ?_⟩)
      | (refine ⟨rfl, rfl, rfl, ?_⟩)
      | (refine ⟨rfl, rfl, ?_⟩)
      | (refine ⟨_, _, rfl, _, rfl, ?_⟩)
      | (refine And.intro (Nat.le_of_ble_eq_true rfl) ?_)
      | (refine And.intro (by omega) ?_)
      | (refine ⟨_, _, rfl, rfl, _, rfl, rfl, ?_⟩)
      | (refine And.intro (by kernel_rfl) ?_)
      | (refine ⟨rfl, rfl, rfl, rfl, rfl, ?_⟩)
      | fail)
  refine SemC.weaker (Weaker.to (l := [(1, .sl (counts.map eCount) full), (2, I64 i), (6, .ptr 0 0 0), (7, .ptr 1 0 0), (20, .sl (s.cargos.map eCargo) false), (21, I64 s.cargos.length), (22, I64 ((0 : Nat) : Int))]) (hp := [.cells z109 0 0, .cells (eHoldV s s.kinds[i] (cargoRow i (s.cargos.take 0)) nilV) 0 0]) 2 rfl ⟨rfl, rfl, rfl, rfl, rfl, i64c ec, rfl, trivial⟩ (Nat.zero_le _) rfl rfl) ?_
  refine SemC.loop (fun j : Nat => j ≤ s.cargos.length) (fun j => ⟨mkFr [(1, .sl (counts.map eCount) full), (2, I64 i), (6, .ptr 0 0 0), (7, .ptr 1 0 0), (20, .sl (s.cargos.map eCargo) false), (21, I64 s.cargos.length), (22, I64 (j : Int))], [.cells z109 0 0, .cells (eHoldV s s.kinds[i] (cargoRow i (s.cargos.take j)) nilV) 0 0], Amb.none, false, 0⟩) (fun j => s.cargos.length - j) ?_ 0 (Nat.zero_le _)
  intro j hj
  have hrow : RowOk (s.cargos.take j).length (cargoRow i (s.cargos.take j)) := cargoRow_ok fun c hx => hc c (List.mem_of_mem_take hx)
  have hrl : (s.cargos.take j).length = j := by simp; omega
  rw [hrl] at hrow
  refine wpC_sound (mu := fun t => Nat.beq t 55) ?_
  repeat' (first
      | (with_reducible refine wpC_skip ?_)
      | (with_reducible refine wpC_seq ?_)
      | (with_reducible refine wpC_block ?_)
      | (with_reducible refine wpC_drawL ?_)
      | (with_reducible refine wpC_opsL ?_)
      | (with_reducible refine wpC_draw ?_)
      | (with_reducible refine wpC_ops ?_)
      | (with_reducible refine wpOps_nil ?_)
      | (first
          | (with_reducible refine wpOps_cons ?_)
          | (with_reducible refine wpDraw_cons ?_)
         first
          | (with_reducible refine wpGuard_none ?_)
          | (refine wpGuard_yes rfl rfl rfl ?_)
          | (refine wpGuard_no rfl rfl rfl ?_)
          | (refine wpGuard_yes rfl rfl (by assumption) ?_)
          | (refine wpGuard_no rfl rfl (by assumption) ?_)
          | (refine wpGuard_skip rfl rfl ?_)
          | skip)
      | (with_reducible refine putS_some ?_)
      | (with_reducible refine putS_none ?_)
      | (with_reducible refine seqQ_normal ?_)
      | (refine ⟨_, rfl, ?_⟩)
      | (refine guardYes (by assumption) ?_)
      | (refine guardYes rfl ?_)
      | (refine guardNo rfl ?_)
      | (refine guardNo (by assumption) ?_)
      | (refine ⟨_, _, rfl, by decide, ?_⟩)
      | (refine ⟨rfl, rfl, rfl, ?_⟩)
      | (refine ⟨rfl, rfl, ?_⟩)
      | (refine ⟨_, _, rfl, _, rfl, ?_⟩)
      | (refine And.intro (Nat.le_of_ble_eq_true rfl) ?_)
      | (refine And.intro (by omega) ?_)
      | (refine ⟨_, _, rfl, rfl, _, rfl, rfl, ?_⟩)
      | (refine And.intro (by kernel_rfl) ?_)
      | (refine ⟨rfl, rfl, rfl, rfl, rfl, ?_⟩)
      | fail)
  refine ⟨fun h => ?_, fun h => ?_⟩
  · have hlt : j < s.cargos.length := by simpa only [decide_eq_true_eq, Int.ofNat_lt] using h
    have hcj := hc s.cargos[j] (List.getElem_mem hlt)
    have hrow' : cargoRow i (s.cargos.take (j + 1)) = addCargo i (cargoRow i (s.cargos.take j)) s.cargos[j] := by
      rw [List.take_add_one, List.getElem?_eq_getElem hlt]
      exact cargoRow_snoc _ _ _
    generalize cargoRow i (s.cargos.take j) = row at hrow hrow' ⊢
    have hg := hrow.get (d := s.cargos[j].day.toNat) (by omega)
    repeat' (first
        | (with_reducible refine wpC_skip ?_)
        | (with_reducible refine wpC_seq ?_)
        | (with_reducible refine wpC_block ?_)
        | (with_reducible refine wpC_drawL ?_)
        | (with_reducible refine wpC_opsL ?_)
        | (with_reducible refine wpC_draw ?_)
        | (with_reducible refine wpC_ops ?_)
        | (with_reducible refine wpOps_nil ?_)
        | (first
            | (with_reducible refine wpOps_cons ?_)
            | (with_reducible refine wpDraw_cons ?_)
           first
            | (with_reducible refine wpGuard_none ?_)
            | (refine wpGuard_yes rfl rfl rfl ?_)
            | (refine wpGuard_no rfl rfl rfl ?_)
            | (refine wpGuard_yes rfl rfl (by assumption) ?_)
            | (refine wpGuard_no rfl rfl (by assumption) ?_)
            | (refine wpGuard_skip rfl rfl ?_)
            | skip)
        | (with_reducible refine putS_some ?_)
        | (with_reducible refine putS_none ?_)
        | (with_reducible refine seqQ_normal ?_)
        | (refine ⟨_, rfl, ?_⟩)
        | (refine guardYes (by assumption) ?_)
        | (refine guardYes rfl ?_)
        | (refine guardNo rfl ?_)
        | (refine guardNo (by assumption) ?_)
        | (refine ⟨_, _, rfl, by decide, ?_⟩)
        | (refine ⟨rfl, rfl, rfl, ?_⟩)
        | (refine ⟨rfl, rfl, ?_⟩)
        | (refine ⟨_, _, rfl, _, rfl, ?_⟩)
        | (refine And.intro (Nat.le_of_ble_eq_true rfl) ?_)
        | (refine And.intro (by omega) ?_)
        | (refine ⟨_, _, rfl, rfl, _, rfl, rfl, ?_⟩)
        | (refine And.intro (by kernel_rfl) ?_)
        | (refine ⟨rfl, rfl, rfl, rfl, rfl, ?_⟩)
        | (refine ⟨eCargo s.cargos[j], ⟨by omega, map_at hlt⟩, rfl, ?_⟩)
        | (refine ⟨_, _, rfl, rfl, rfl, rfl, Nat.le_of_ble_eq_true rfl, ?_⟩)
        | (refine ⟨_, _, rfl, Nat.le_of_ble_eq_true rfl, ?_⟩)
        | fail)
    refine ⟨fun h2 => ?_, fun h2 => ?_⟩
    · have hd : s.cargos[j].day.toNat < row.length := by rw [hrow.len]; omega
      repeat' (first
          | (with_reducible refine wpC_skip ?_)
          | (with_reducible refine wpC_seq ?_)
          | (with_reducible refine wpC_block ?_)
          | (with_reducible refine wpC_drawL ?_)
          | (with_reducible refine wpC_opsL ?_)
          | (with_reducible refine wpC_draw ?_)
          | (with_reducible refine wpC_ops ?_)
          | (with_reducible refine wpOps_nil ?_)
          | (first
              | (with_reducible refine wpOps_cons ?_)
              | (with_reducible refine wpDraw_cons ?_)
             first
              | (with_reducible refine wpGuard_none ?_)
              | (refine wpGuard_yes rfl rfl rfl ?_)
              | (refine wpGuard_no rfl rfl rfl ?_)
              | (refine wpGuard_yes rfl rfl (by assumption) ?_)
              | (refine wpGuard_no rfl rfl (by assumption) ?_)
              | (refine wpGuard_skip rfl rfl ?_)
              | skip)
          | (with_reducible refine putS_some ?_)
          | (with_reducible refine putS_none ?_)
          | (with_reducible refine seqQ_normal ?_)
          | (refine ⟨_, rfl, ?_⟩)
          | (refine guardYes (by assumption) ?_)
          | (refine guardYes rfl ?_)
          | (refine guardNo rfl ?_)
          | (refine guardNo (by assumption) ?_)
          | (refine ⟨_, _, rfl, by decide, ?_⟩)
          | (refine ⟨rfl, rfl, rfl, ?_⟩)
          | (refine ⟨rfl, rfl, ?_⟩)
          | (refine ⟨_, _, rfl, _, rfl, ?_⟩)
          | (refine And.intro (Nat.le_of_ble_eq_true rfl) ?_)
          | (refine And.intro (by omega) ?_)
          | (refine ⟨_, _, rfl, rfl, _, rfl, rfl, ?_⟩)
          | (refine And.intro (by kernel_rfl) ?_)
          | (refine ⟨rfl, rfl, rfl, rfl, rfl, ?_⟩)
          | (refine ⟨_, _, rfl, I64 (row.getD s.cargos[j].day.toNat 0), hold_get hd, ?_⟩)
          | (refine ⟨_, _, rfl, rfl, rfl, rfl, by rw [hold_len hrow.len]; omega, ?_⟩)
          | (refine ⟨_, _, rfl, Nat.le_of_ble_eq_true rfl, ?_⟩)
          | fail)
      have h2 : s.cargos[j].kind = (i : Int) := by simpa using h2
      refine ⟨j + 1, hlt, (by dsimp only; omega), Weaker.to 2 ?_ ⟨rfl, rfl, rfl, rfl, rfl, rfl, i64c (by simp), trivial⟩ (Nat.zero_le _) rfl (hold_inb rfl)⟩
      rw [hrow', addCargo, if_pos h2, ← hold_put hd]
      rfl
    · have h2 : ¬ s.cargos[j].kind = (i : Int) := by simpa using h2
      repeat' (first
          | (with_reducible refine wpC_skip ?_)
          | (with_reducible refine wpC_seq ?_)
          | (with_reducible refine wpC_block ?_)
          | (with_reducible refine wpC_drawL ?_)
          | (with_reducible refine wpC_opsL ?_)
          | (with_reducible refine wpC_draw ?_)
          | (with_reducible refine wpC_ops ?_)
          | (with_reducible refine wpOps_nil ?_)
          | (first
              | (with_reducible refine wpOps_cons ?_)
              | (with_reducible refine wpDraw_cons ?_)
             first
              | (with_reducible refine wpGuard_none ?_)
              | (refine wpGuard_yes rfl rfl rfl ?_)
              | (refine wpGuard_no rfl rfl rfl ?_)
              | (refine wpGuard_yes rfl rfl (by assumption) ?_)
              | (refine wpGuard_no rfl rfl (by assumption) ?_)
              | (refine wpGuard_skip rfl rfl ?_)
              | skip)
          | (with_reducible refine putS_some ?_)
          | (with_reducible refine putS_none ?_)
          | (with_reducible refine seqQ_normal ?_)
          | (refine ⟨_, rfl, ?_⟩)
          | (refine guardYes (by assumption) ?_)
          | (refine guardYes rfl ?_)
          | (refine guardNo rfl ?_)
          | (refine guardNo (by assumption) ?_)
          | (refine ⟨_, _, rfl, by decide, ?_⟩)
          | (refine ⟨rfl, rfl, rfl, ?_⟩)
          | (refine ⟨rfl, rfl, ?_⟩)
          | (refine ⟨_, _, rfl, _, rfl, ?_⟩)
          | (refine And.intro (Nat.le_of_ble_eq_true rfl) ?_)
          | (refine And.intro (by omega) ?_)
          | (refine ⟨_, _, rfl, rfl, _, rfl, rfl, ?_⟩)
          | (refine And.intro (by kernel_rfl) ?_)
          | (refine ⟨rfl, rfl, rfl, rfl, rfl, ?_⟩)
          | (refine ⟨_, _, rfl, Nat.le_of_ble_eq_true rfl, ?_⟩)
          | fail)
      refine ⟨j + 1, hlt, (by dsimp only; omega), Weaker.to 2 ?_ ⟨rfl, rfl, rfl, rfl, rfl, rfl, i64c (by simp), trivial⟩ (Nat.zero_le _) rfl (hold_inb rfl)⟩
      rw [hrow', addCargo, if_neg h2]
      rfl
  · have hj : s.cargos.take j = s.cargos := List.take_of_length_le (by simp only [decide_eq_false_iff_not] at h; omega)
    rw [hj] at hrow ⊢
    generalize cargoRow i s.cargos = row at hrow ⊢
    have h30 := hrow.len
    clear hrow
    repeat' (first
        | (with_reducible refine wpC_skip ?_)
        | (with_reducible refine wpC_seq ?_)
        | (with_reducible refine wpC_block ?_)
        | (with_reducible refine wpC_drawL ?_)
        | (with_reducible refine wpC_opsL ?_)
        | (with_reducible refine wpC_draw ?_)
        | (with_reducible refine wpC_ops ?_)
        | (with_reducible refine wpOps_nil ?_)
        | (first
            | (with_reducible refine wpOps_cons ?_)
            | (with_reducible refine wpDraw_cons ?_)
           first
            | (with_reducible refine wpGuard_none ?_)
            | (refine wpGuard_yes rfl rfl rfl ?_)
            | (refine wpGuard_no rfl rfl rfl ?_)
            | (refine wpGuard_yes rfl rfl (by assumption) ?_)
            | (refine wpGuard_no rfl rfl (by assumption) ?_)
            | (refine wpGuard_skip rfl rfl ?_)
            | skip)
        | (with_reducible refine putS_some ?_)
        | (with_reducible refine putS_none ?_)
        | (with_reducible refine seqQ_normal ?_)
        | (refine ⟨_, rfl, ?_⟩)
        | (refine guardYes (by assumption) ?_)
        | (refine guardYes rfl ?_)
        | (refine guardNo rfl ?_)
        | (refine guardNo (by assumption) ?_)
        | (refine ⟨_, _, rfl, by decide, ?_⟩)
        | (refine ⟨rfl, rfl, rfl, ?_⟩)
        | (refine ⟨rfl, rfl, ?_⟩)
        | (refine ⟨_, _, rfl, _, rfl, ?_⟩)
        | (refine And.intro (Nat.le_of_ble_eq_true rfl) ?_)
        | (refine And.intro (by omega) ?_)
        | (refine ⟨_, _, rfl, rfl, _, rfl, rfl, ?_⟩)
        | (refine And.intro (by kernel_rfl) ?_)
        | (refine ⟨rfl, rfl, rfl, rfl, rfl, ?_⟩)
        | fail)
    refine SemC.weaker (Weaker.to (l := [(2, I64 i), (6, .ptr 0 0 0), (7, .ptr 1 0 0), (41, .sl (counts.map eCount) full), (42, I64 counts.length), (43, I64 ((0 : Nat) : Int))]) (hp := .cells z109 0 0 :: .cells (eHoldV s s.kinds[i] row (cntV [])) 0 0 :: cntB []) 2 rfl ⟨rfl, rfl, rfl, rfl, i64c en, rfl, trivial⟩ (Nat.zero_le _) rfl (hold_inb rfl)) ?_
    refine SemC.loop (fun x : Nat × List Count => x.1 ≤ counts.length ∧ x.2 = (counts.take x.1).filter (fun c => decide (c.kind = (i : Int)))) (fun x => ⟨mkFr [(2, I64 i), (6, .ptr 0 0 0), (7, .ptr 1 0 0), (41, .sl (counts.map eCount) full), (42, I64 counts.length), (43, I64 (x.1 : Int))], .cells z109 0 0 :: .cells (eHoldV s s.kinds[i] row (cntV x.2)) 0 0 :: cntB x.2, Amb.none, false, 0⟩) (fun x => counts.length - x.1) ?_ (0, []) ⟨Nat.zero_le _, rfl⟩
    intro ⟨m, f⟩ ⟨hm, hf⟩
    refine wpC_sound (mu := fun t => Nat.beq t 55) ?_
    repeat' (first
        | (with_reducible refine wpC_skip ?_)
        | (with_reducible refine wpC_seq ?_)
        | (with_reducible refine wpC_block ?_)
        | (with_reducible refine wpC_drawL ?_)
        | (with_reducible refine wpC_opsL ?_)
        | (with_reducible refine wpC_draw ?_)
        | (with_reducible refine wpC_ops ?_)
        | (with_reducible refine wpOps_nil ?_)
        | (first
            | (with_reducible refine wpOps_cons ?_)
            | (with_reducible refine wpDraw_cons ?_)
           first
            | (with_reducible refine wpGuard_none ?_)
            | (refine wpGuard_yes rfl rfl rfl ?_)
            | (refine wpGuard_no rfl rfl rfl ?_)
            | (refine wpGuard_yes rfl rfl (by assumption) ?_)
            | (refine wpGuard_no rfl rfl (by assumption) ?_)
            | (refine wpGuard_skip rfl rfl ?_)
            | skip)
        | (with_reducible refine putS_some ?_)
        | (with_reducible refine putS_none ?_)
        | (with_reducible refine seqQ_normal ?_)
        | (refine ⟨_, rfl, ?_⟩)
        | (refine guardYes (by assumption) ?_)
        | (refine guardYes rfl ?_)
        | (refine guardNo rfl ?_)
        | (refine guardNo (by assumption) ?_)
        | (refine ⟨_, _, rfl, by decide, ?_⟩)
        | (refine ⟨rfl, rfl, rfl, ?_⟩)
        | (refine ⟨rfl, rfl, ?_⟩)
        | (refine ⟨_, _, rfl, _, rfl, ?_⟩)
        | (refine And.intro (Nat.le_of_ble_eq_true rfl) ?_)
        | (refine And.intro (by omega) ?_)
        | (refine ⟨_, _, rfl, rfl, _, rfl, rfl, ?_⟩)
        | (refine And.intro (by kernel_rfl) ?_)
        | (refine ⟨rfl, rfl, rfl, rfl, rfl, ?_⟩)
        | fail)
    refine ⟨fun h => ?_, fun h => ?_⟩
    · have hlt : m < counts.length := by simpa only [decide_eq_true_eq, Int.ofNat_lt] using h
      have hft : (counts.take (m + 1)).filter (fun c => decide (c.kind = (i : Int))) = f ++ (if counts[m].kind = (i : Int) then [counts[m]] else []) := by
        rw [List.take_add_one, List.getElem?_eq_getElem hlt, List.filter_append, ← hf]
        by_cases hk : counts[m].kind = (i : Int)
        · simp [hk]
        · simp [hk]
      cases f with
      | nil =>
        repeat' (first
            | (with_reducible refine wpC_skip ?_)
            | (with_reducible refine wpC_seq ?_)
            | (with_reducible refine wpC_block ?_)
            | (with_reducible refine wpC_drawL ?_)
            | (with_reducible refine wpC_opsL ?_)
            | (with_reducible refine wpC_draw ?_)
            | (with_reducible refine wpC_ops ?_)
            | (with_reducible refine wpOps_nil ?_)
            | (first
                | (with_reducible refine wpOps_cons ?_)
                | (with_reducible refine wpDraw_cons ?_)
               first
                | (with_reducible refine wpGuard_none ?_)
                | (refine wpGuard_yes rfl rfl rfl ?_)
                | (refine wpGuard_no rfl rfl rfl ?_)
                | (refine wpGuard_yes rfl rfl (by assumption) ?_)
                | (refine wpGuard_no rfl rfl (by assumption) ?_)
                | (refine wpGuard_skip rfl rfl ?_)
                | skip)
            | (with_reducible refine putS_some ?_)
            | (with_reducible refine putS_none ?_)
            | (with_reducible refine seqQ_normal ?_)
            | (refine ⟨_, rfl, ?_⟩)
            | (refine guardYes (by assumption) ?_)
            | (refine guardYes rfl ?_)
            | (refine guardNo rfl ?_)
            | (refine guardNo (by assumption) ?_)
            | (refine ⟨_, _, rfl, by decide, ?_⟩)
            | (refine ⟨rfl, rfl, rfl, ?_⟩)
            | (refine ⟨rfl, rfl, ?_⟩)
            | (refine ⟨_, _, rfl, _, rfl, ?_⟩)
            | (refine And.intro (Nat.le_of_ble_eq_true rfl) ?_)
            | (refine And.intro (by omega) ?_)
            | (refine ⟨_, _, rfl, rfl, _, rfl, rfl, ?_⟩)
            | (refine And.intro (by kernel_rfl) ?_)
            | (refine ⟨rfl, rfl, rfl, rfl, rfl, ?_⟩)
            | (refine ⟨eCount counts[m], ⟨by omega, map_at hlt⟩, rfl, ?_⟩)
            | (refine ⟨_, _, rfl, rfl, rfl, rfl, Nat.le_of_ble_eq_true rfl, ?_⟩)
            | (refine ⟨_, _, rfl, Nat.le_of_ble_eq_true rfl, ?_⟩)
            | fail)
        refine ⟨fun h2 => ?_, fun h2 => ?_⟩
        · have h2 : counts[m].kind = (i : Int) := by simpa using h2
          repeat' (first
              | (with_reducible refine wpC_skip ?_)
              | (with_reducible refine wpC_seq ?_)
              | (with_reducible refine wpC_block ?_)
              | (with_reducible refine wpC_drawL ?_)
              | (with_reducible refine wpC_opsL ?_)
              | (with_reducible refine wpC_draw ?_)
              | (with_reducible refine wpC_ops ?_)
              | (with_reducible refine wpOps_nil ?_)
              | (first
                  | (with_reducible refine wpOps_cons ?_)
                  | (with_reducible refine wpDraw_cons ?_)
                 first
                  | (with_reducible refine wpGuard_none ?_)
                  | (refine wpGuard_yes rfl rfl rfl ?_)
                  | (refine wpGuard_no rfl rfl rfl ?_)
                  | (refine wpGuard_yes rfl rfl (by assumption) ?_)
                  | (refine wpGuard_no rfl rfl (by assumption) ?_)
                  | (refine wpGuard_skip rfl rfl ?_)
                  | skip)
              | (with_reducible refine putS_some ?_)
              | (with_reducible refine putS_none ?_)
              | (with_reducible refine seqQ_normal ?_)
              | (refine ⟨_, rfl, ?_⟩)
              | (refine guardYes (by assumption) ?_)
              | (refine guardYes rfl ?_)
              | (refine guardNo rfl ?_)
              | (refine guardNo (by assumption) ?_)
              | (refine ⟨_, _, rfl, by decide, ?_⟩)
              | (refine ⟨rfl, rfl, rfl, ?_⟩)
              | (refine ⟨rfl, rfl, ?_⟩)
              | (refine ⟨_, _, rfl, _, rfl, ?_⟩)
              | (refine And.intro (Nat.le_of_ble_eq_true rfl) ?_)
              | (refine And.intro (by omega) ?_)
              | (refine ⟨_, _, rfl, rfl, _, rfl, rfl, ?_⟩)
              | (refine And.intro (by kernel_rfl) ?_)
              | (refine ⟨rfl, rfl, rfl, rfl, rfl, ?_⟩)
              | (refine ⟨_, _, rfl, _, hold_getc h30, ?_⟩)
              | (refine ⟨_, _, rfl, Nat.le_of_ble_eq_true rfl, ?_⟩)
              | fail)
          refine ⟨[eCount counts[m]], ⟨fun el hel => by rw [List.mem_singleton.1 hel]; rfl, rfl⟩, rfl, And.intro (Nat.le_of_ble_eq_true rfl) (Nat.le_of_ble_eq_true rfl), fun hn => absurd hn (by simp), fun _ => ?_⟩
          repeat' (first
              | (with_reducible refine wpC_skip ?_)
              | (with_reducible refine wpC_seq ?_)
              | (with_reducible refine wpC_block ?_)
              | (with_reducible refine wpC_drawL ?_)
              | (with_reducible refine wpC_opsL ?_)
              | (with_reducible refine wpC_draw ?_)
              | (with_reducible refine wpC_ops ?_)
              | (with_reducible refine wpOps_nil ?_)
              | (first
                  | (with_reducible refine wpOps_cons ?_)
                  | (with_reducible refine wpDraw_cons ?_)
                 first
                  | (with_reducible refine wpGuard_none ?_)
                  | (refine wpGuard_yes rfl rfl rfl ?_)
                  | (refine wpGuard_no rfl rfl rfl ?_)
                  | (refine wpGuard_yes rfl rfl (by assumption) ?_)
                  | (refine wpGuard_no rfl rfl (by assumption) ?_)
                  | (refine wpGuard_skip rfl rfl ?_)
                  | skip)
              | (with_reducible refine putS_some ?_)
              | (with_reducible refine putS_none ?_)
              | (with_reducible refine seqQ_normal ?_)
              | (refine ⟨_, rfl, ?_⟩)
              | (refine guardYes (by assumption) ?_)
              | (refine guardYes rfl ?_)
              | (refine guardNo rfl ?_)
              | (refine guardNo (by assumption) ?_)
              | (refine ⟨_, _, rfl, by decide, ?_⟩)
              | (refine ⟨rfl, rfl, rfl, ?_⟩)
              | (refine ⟨rfl, rfl, ?_⟩)
              | (refine ⟨_, _, rfl, _, rfl, ?_⟩)
              | (refine And.intro (Nat.le_of_ble_eq_true rfl) ?_)
              | (refine And.intro (by omega) ?_)
              | (refine ⟨_, _, rfl, rfl, _, rfl, rfl, ?_⟩)
              | (refine And.intro (by kernel_rfl) ?_)
              | (refine ⟨rfl, rfl, rfl, rfl, rfl, ?_⟩)
              | (refine ⟨_, _, rfl, rfl, rfl, rfl, by rw [hold_len h30]; omega, ?_⟩)
              | fail)
          refine ⟨(m + 1, [counts[m]]), ⟨hlt, by rw [hft, if_pos h2]; rfl⟩, (by dsimp only; omega), Weaker.to 4 ?_ ⟨rfl, rfl, rfl, rfl, rfl, i64c (by simp), trivial⟩ (Nat.zero_le _) rfl ?_⟩
          · show _ = AB.cells z109 0 0 :: AB.cells (eHoldV s s.kinds[i] row (cntV [counts[m]])) 0 0 :: cntB [counts[m]]
            rw [← hold_putc (c := nilV) h30 (cntV [counts[m]])]
            rfl
          · exact hp_inb
        · have h2 : ¬ counts[m].kind = (i : Int) := by simpa using h2
          repeat' (first
              | (with_reducible refine wpC_skip ?_)
              | (with_reducible refine wpC_seq ?_)
              | (with_reducible refine wpC_block ?_)
              | (with_reducible refine wpC_drawL ?_)
              | (with_reducible refine wpC_opsL ?_)
              | (with_reducible refine wpC_draw ?_)
              | (with_reducible refine wpC_ops ?_)
              | (with_reducible refine wpOps_nil ?_)
              | (first
                  | (with_reducible refine wpOps_cons ?_)
                  | (with_reducible refine wpDraw_cons ?_)
                 first
                  | (with_reducible refine wpGuard_none ?_)
                  | (refine wpGuard_yes rfl rfl rfl ?_)
                  | (refine wpGuard_no rfl rfl rfl ?_)
                  | (refine wpGuard_yes rfl rfl (by assumption) ?_)
                  | (refine wpGuard_no rfl rfl (by assumption) ?_)
                  | (refine wpGuard_skip rfl rfl ?_)
                  | skip)
              | (with_reducible refine putS_some ?_)
              | (with_reducible refine putS_none ?_)
              | (with_reducible refine seqQ_normal ?_)
              | (refine ⟨_, rfl, ?_⟩)
              | (refine guardYes (by assumption) ?_)
              | (refine guardYes rfl ?_)
              | (refine guardNo rfl ?_)
              | (refine guardNo (by assumption) ?_)
              | (refine ⟨_, _, rfl, by decide, ?_⟩)
              | (refine ⟨rfl, rfl, rfl, ?_⟩)
              | (refine ⟨rfl, rfl, ?_⟩)
              | (refine ⟨_, _, rfl, _, rfl, ?_⟩)
              | (refine And.intro (Nat.le_of_ble_eq_true rfl) ?_)
              | (refine And.intro (by omega) ?_)
              | (refine ⟨_, _, rfl, rfl, _, rfl, rfl, ?_⟩)
              | (refine And.intro (by kernel_rfl) ?_)
              | (refine ⟨rfl, rfl, rfl, rfl, rfl, ?_⟩)
              | (refine ⟨_, _, rfl, Nat.le_of_ble_eq_true rfl, ?_⟩)
              | fail)
          refine ⟨(m + 1, []), ⟨hlt, by rw [hft, if_neg h2]; rfl⟩, (by dsimp only; omega), Weaker.to 2 rfl ⟨rfl, rfl, rfl, rfl, rfl, i64c (by simp), trivial⟩ (Nat.zero_le _) rfl (hold_inb rfl)⟩
      | cons c0 f =>
        have hfl : f.length + 1 ≤ 1000 := by
          have : ((counts.take m).filter (fun c => decide (c.kind = (i : Int)))).length ≤ counts.length := Nat.le_trans (List.length_filter_le _ _) (by simp; omega)
          rw [← hf] at this
          simpa using Nat.le_trans this hn
        repeat' (first
            | (with_reducible refine wpC_skip ?_)
            | (with_reducible refine wpC_seq ?_)
            | (with_reducible refine wpC_block ?_)
            | (with_reducible refine wpC_drawL ?_)
            | (with_reducible refine wpC_opsL ?_)
            | (with_reducible refine wpC_draw ?_)
            | (with_reducible refine wpC_ops ?_)
            | (with_reducible refine wpOps_nil ?_)
            | (first
                | (with_reducible refine wpOps_cons ?_)
                | (with_reducible refine wpDraw_cons ?_)
               first
                | (with_reducible refine wpGuard_none ?_)
                | (refine wpGuard_yes rfl rfl rfl ?_)
                | (refine wpGuard_no rfl rfl rfl ?_)
                | (refine wpGuard_yes rfl rfl (by assumption) ?_)
                | (refine wpGuard_no rfl rfl (by assumption) ?_)
                | (refine wpGuard_skip rfl rfl ?_)
                | skip)
            | (with_reducible refine putS_some ?_)
            | (with_reducible refine putS_none ?_)
            | (with_reducible refine seqQ_normal ?_)
            | (refine ⟨_, rfl, ?_⟩)
            | (refine guardYes (by assumption) ?_)
            | (refine guardYes rfl ?_)
            | (refine guardNo rfl ?_)
            | (refine guardNo (by assumption) ?_)
            | (refine ⟨_, _, rfl, by decide, ?_⟩)
            | (refine ⟨rfl, rfl, rfl, ?_⟩)
            | (refine ⟨rfl, rfl, ?_⟩)
            | (refine ⟨_, _, rfl, _, rfl, ?_⟩)
            | (refine And.intro (Nat.le_of_ble_eq_true rfl) ?_)
            | (refine And.intro (by omega) ?_)
            | (refine ⟨_, _, rfl, rfl, _, rfl, rfl, ?_⟩)
            | (refine And.intro (by kernel_rfl) ?_)
            | (refine ⟨rfl, rfl, rfl, rfl, rfl, ?_⟩)
            | (refine ⟨eCount counts[m], ⟨by omega, map_at hlt⟩, rfl, ?_⟩)
            | (refine ⟨_, _, rfl, rfl, rfl, rfl, Nat.le_of_ble_eq_true rfl, ?_⟩)
            | (refine ⟨_, _, rfl, Nat.le_of_ble_eq_true rfl, ?_⟩)
            | fail)
        refine ⟨fun h2 => ?_, fun h2 => ?_⟩
        · have h2 : counts[m].kind = (i : Int) := by simpa using h2
          repeat' (first
              | (with_reducible refine wpC_skip ?_)
              | (with_reducible refine wpC_seq ?_)
              | (with_reducible refine wpC_block ?_)
              | (with_reducible refine wpC_drawL ?_)
              | (with_reducible refine wpC_opsL ?_)
              | (with_reducible refine wpC_draw ?_)
              | (with_reducible refine wpC_ops ?_)
              | (with_reducible refine wpOps_nil ?_)
              | (first
                  | (with_reducible refine wpOps_cons ?_)
                  | (with_reducible refine wpDraw_cons ?_)
                 first
                  | (with_reducible refine wpGuard_none ?_)
                  | (refine wpGuard_yes rfl rfl rfl ?_)
                  | (refine wpGuard_no rfl rfl rfl ?_)
                  | (refine wpGuard_yes rfl rfl (by assumption) ?_)
                  | (refine wpGuard_no rfl rfl (by assumption) ?_)
                  | (refine wpGuard_skip rfl rfl ?_)
                  | skip)
              | (with_reducible refine putS_some ?_)
              | (with_reducible refine putS_none ?_)
              | (with_reducible refine seqQ_normal ?_)
              | (refine ⟨_, rfl, ?_⟩)
              | (refine guardYes (by assumption) ?_)
              | (refine guardYes rfl ?_)
              | (refine guardNo rfl ?_)
              | (refine guardNo (by assumption) ?_)
              | (refine ⟨_, _, rfl, by decide, ?_⟩)
              | (refine ⟨rfl, rfl, rfl, ?_⟩)
              | (refine ⟨rfl, rfl, ?_⟩)
              | (refine ⟨_, _, rfl, _, rfl, ?_⟩)
              | (refine And.intro (Nat.le_of_ble_eq_true rfl) ?_)
              | (refine And.intro (by omega) ?_)
              | (refine ⟨_, _, rfl, rfl, _, rfl, rfl, ?_⟩)
              | (refine And.intro (by kernel_rfl) ?_)
              | (refine ⟨rfl, rfl, rfl, rfl, rfl, ?_⟩)
              | (refine ⟨_, _, rfl, _, hold_getc h30, ?_⟩)
              | (refine ⟨_, _, rfl, Nat.le_of_ble_eq_true rfl, ?_⟩)
              | fail)
          refine ⟨[eCount counts[m]], ⟨fun el hel => by rw [List.mem_singleton.1 hel]; rfl, rfl⟩, rfl, _, rfl, flat_counts_len (c0 :: f), Or.inr rfl, And.intro (by dsimp only [List.length]; omega) (by dsimp only [List.length]; omega), fun hn => absurd hn (by simp), fun _ => ?_⟩
          repeat' (first
              | (with_reducible refine wpC_skip ?_)
              | (with_reducible refine wpC_seq ?_)
              | (with_reducible refine wpC_block ?_)
              | (with_reducible refine wpC_drawL ?_)
              | (with_reducible refine wpC_opsL ?_)
              | (with_reducible refine wpC_draw ?_)
              | (with_reducible refine wpC_ops ?_)
              | (with_reducible refine wpOps_nil ?_)
              | (first
                  | (with_reducible refine wpOps_cons ?_)
                  | (with_reducible refine wpDraw_cons ?_)
                 first
                  | (with_reducible refine wpGuard_none ?_)
                  | (refine wpGuard_yes rfl rfl rfl ?_)
                  | (refine wpGuard_no rfl rfl rfl ?_)
                  | (refine wpGuard_yes rfl rfl (by assumption) ?_)
                  | (refine wpGuard_no rfl rfl (by assumption) ?_)
                  | (refine wpGuard_skip rfl rfl ?_)
                  | skip)
              | (with_reducible refine putS_some ?_)
              | (with_reducible refine putS_none ?_)
              | (with_reducible refine seqQ_normal ?_)
              | (refine ⟨_, rfl, ?_⟩)
              | (refine guardYes (by assumption) ?_)
              | (refine guardYes rfl ?_)
              | (refine guardNo rfl ?_)
              | (refine guardNo (by assumption) ?_)
              | (refine ⟨_, _, rfl, by decide, ?_⟩)
              | (refine ⟨rfl, rfl, rfl, ?_⟩)
              | (refine ⟨rfl, rfl, ?_⟩)
              | (refine ⟨_, _, rfl, _, rfl, ?_⟩)
              | (refine And.intro (Nat.le_of_ble_eq_true rfl) ?_)
              | (refine And.intro (by omega) ?_)
              | (refine ⟨_, _, rfl, rfl, _, rfl, rfl, ?_⟩)
              | (refine And.intro (by kernel_rfl) ?_)
              | (refine ⟨rfl, rfl, rfl, rfl, rfl, ?_⟩)
              | (refine ⟨_, _, rfl, rfl, rfl, rfl, by rw [hold_len h30]; omega, ?_⟩)
              | fail)
          refine ⟨(m + 1, c0 :: (f ++ [counts[m]])), ⟨hlt, by rw [hft, if_pos h2]; rfl⟩, (by dsimp only; omega), Weaker.to 4 ?_ ⟨rfl, rfl, rfl, rfl, rfl, i64c (by simp), trivial⟩ (Nat.zero_le _) rfl hp_inb⟩
          show _ = AB.cells z109 0 0 :: AB.cells (eHoldV s s.kinds[i] row (cntV (c0 :: (f ++ [counts[m]])))) 0 0 :: cntB (c0 :: (f ++ [counts[m]]))
          rw [← hold_putc (c := cntV (c0 :: f)) h30 (cntV (c0 :: (f ++ [counts[m]]))), cntV_snoc, cntB_snoc]
          rfl
        · have h2 : ¬ counts[m].kind = (i : Int) := by simpa using h2
          repeat' (first
              | (with_reducible refine wpC_skip ?_)
              | (with_reducible refine wpC_seq ?_)
              | (with_reducible refine wpC_block ?_)
              | (with_reducible refine wpC_drawL ?_)
              | (with_reducible refine wpC_opsL ?_)
              | (with_reducible refine wpC_draw ?_)
              | (with_reducible refine wpC_ops ?_)
              | (with_reducible refine wpOps_nil ?_)
              | (first
                  | (with_reducible refine wpOps_cons ?_)
                  | (with_reducible refine wpDraw_cons ?_)
                 first
                  | (with_reducible refine wpGuard_none ?_)
                  | (refine wpGuard_yes rfl rfl rfl ?_)
                  | (refine wpGuard_no rfl rfl rfl ?_)
                  | (refine wpGuard_yes rfl rfl (by assumption) ?_)
                  | (refine wpGuard_no rfl rfl (by assumption) ?_)
                  | (refine wpGuard_skip rfl rfl ?_)
                  | skip)
              | (with_reducible refine putS_some ?_)
              | (with_reducible refine putS_none ?_)
              | (with_reducible refine seqQ_normal ?_)
              | (refine ⟨_, rfl, ?_⟩)
              | (refine guardYes (by assumption) ?_)
              | (refine guardYes rfl ?_)
              | (refine guardNo rfl ?_)
              | (refine guardNo (by assumption) ?_)
              | (refine ⟨_, _, rfl, by decide, ?_⟩)
              | (refine ⟨rfl, rfl, rfl, ?_⟩)
              | (refine ⟨rfl, rfl, ?_⟩)
              | (refine ⟨_, _, rfl, _, rfl, ?_⟩)
              | (refine And.intro (Nat.le_of_ble_eq_true rfl) ?_)
              | (refine And.intro (by omega) ?_)
              | (refine ⟨_, _, rfl, rfl, _, rfl, rfl, ?_⟩)
              | (refine And.intro (by kernel_rfl) ?_)
              | (refine ⟨rfl, rfl, rfl, rfl, rfl, ?_⟩)
              | (refine ⟨_, _, rfl, Nat.le_of_ble_eq_true rfl, ?_⟩)
              | fail)
          refine ⟨(m + 1, c0 :: f), ⟨hlt, by rw [hft, if_neg h2, List.append_nil]⟩, (by dsimp only; omega), Weaker.to 4 rfl ⟨rfl, rfl, rfl, rfl, rfl, i64c (by simp), trivial⟩ (Nat.zero_le _) rfl hp_inb⟩
    · have hm : counts.take m = counts := List.take_of_length_le (by simp only [decide_eq_false_iff_not] at h; omega)
      rw [hm] at hf
      simp only at hf
      subst hf
      generalize hF : counts.filter (fun c => decide (c.kind = (i : Int))) = f
      repeat' (first
          | (with_reducible refine wpC_skip ?_)
          | (with_reducible refine wpC_seq ?_)
          | (with_reducible refine wpC_block ?_)
          | (with_reducible refine wpC_drawL ?_)
          | (with_reducible refine wpC_opsL ?_)
          | (with_reducible refine wpC_draw ?_)
          | (with_reducible refine wpC_ops ?_)
          | (with_reducible refine wpOps_nil ?_)
          | (first
              | (with_reducible refine wpOps_cons ?_)
              | (with_reducible refine wpDraw_cons ?_)
             first
              | (with_reducible refine wpGuard_none ?_)
              | (refine wpGuard_yes rfl rfl rfl ?_)
              | (refine wpGuard_no rfl rfl rfl ?_)
              | (refine wpGuard_yes rfl rfl (by assumption) ?_)
              | (refine wpGuard_no rfl rfl (by assumption) ?_)
              | (refine wpGuard_skip rfl rfl ?_)
              | skip)
          | (with_reducible refine putS_some ?_)
          | (with_reducible refine putS_none ?_)
          | (with_reducible refine seqQ_normal ?_)
          | (refine ⟨_, rfl, ?_⟩)
          | (refine guardYes (by assumption) ?_)
          | (refine guardYes rfl ?_)
          | (refine guardNo rfl ?_)
          | (refine guardNo (by assumption) ?_)
          | (refine ⟨_, _, rfl, by decide, ?_⟩)
          | (refine ⟨rfl, rfl, rfl, ?_⟩)
          | (refine ⟨rfl, rfl, ?_⟩)
          | (refine ⟨_, _, rfl, _, rfl, ?_⟩)
          | (refine And.intro (Nat.le_of_ble_eq_true rfl) ?_)
          | (refine And.intro (by omega) ?_)
          | (refine ⟨_, _, rfl, rfl, _, rfl, rfl, ?_⟩)
          | (refine And.intro (by kernel_rfl) ?_)
          | (refine ⟨rfl, rfl, rfl, rfl, rfl, ?_⟩)
          | (refine ⟨_, _, rfl, by rw [hold_len h30]; omega, ?_⟩)
          | fail)
      rw [hold_all h30]
      repeat' (first
          | (with_reducible refine wpC_skip ?_)
          | (with_reducible refine wpC_seq ?_)
          | (with_reducible refine wpC_block ?_)
          | (with_reducible refine wpC_drawL ?_)
          | (with_reducible refine wpC_opsL ?_)
          | (with_reducible refine wpC_draw ?_)
          | (with_reducible refine wpC_ops ?_)
          | (with_reducible refine wpOps_nil ?_)
          | (first
              | (with_reducible refine wpOps_cons ?_)
              | (with_reducible refine wpDraw_cons ?_)
             first
              | (with_reducible refine wpGuard_none ?_)
              | (refine wpGuard_yes rfl rfl rfl ?_)
              | (refine wpGuard_no rfl rfl rfl ?_)
              | (refine wpGuard_yes rfl rfl (by assumption) ?_)
              | (refine wpGuard_no rfl rfl (by assumption) ?_)
              | (refine wpGuard_skip rfl rfl ?_)
              | skip)
          | (with_reducible refine putS_some ?_)
          | (with_reducible refine putS_none ?_)
          | (with_reducible refine seqQ_normal ?_)
          | (refine ⟨_, rfl, ?_⟩)
          | (refine guardYes (by assumption) ?_)
          | (refine guardYes rfl ?_)
          | (refine guardNo rfl ?_)
          | (refine guardNo (by assumption) ?_)
          | (refine ⟨_, _, rfl, by decide, ?_⟩)
          | (refine ⟨rfl, rfl, rfl, ?_⟩)
          | (refine ⟨rfl, rfl, ?_⟩)
          | (refine ⟨_, _, rfl, _, rfl, ?_⟩)
          | (refine And.intro (Nat.le_of_ble_eq_true rfl) ?_)
          | (refine And.intro (by omega) ?_)
          | (refine ⟨_, _, rfl, rfl, _, rfl, rfl, ?_⟩)
          | (refine And.intro (by kernel_rfl) ?_)
          | (refine ⟨rfl, rfl, rfl, rfl, rfl, ?_⟩)
          | (refine ⟨_, _, rfl, rfl, hold_one, hold_len h30, Nat.le_of_ble_eq_true rfl, ?_⟩)
          | fail)
      have e : spliceV z109 (AV.ag (eHoldV s s.kinds[i] row (cntV f))).cells 0 = eHoldV s s.kinds[i] row (cntV f) := by
        show [] ++ (eHoldV s s.kinds[i] row (cntV f)) ++ z109.drop (0 + (eHoldV s s.kinds[i] row (cntV f)).length) = _
        rw [hold_len h30, show z109.drop (0 + 43) = [] from rfl, List.nil_append, List.append_nil]
      rw [e]
      refine ⟨_, _, rfl, by rw [hold_len h30]; omega, ?_⟩
      rw [hold_all h30]
      exact ⟨[_], ⟨hold_fz, trivial⟩, rfl⟩
end Go.Proofs.Ytmkaeohmdcoanaa
open Go Go.RM
namespace Go.Proofs.Ytmkaeohmdcoanaa
set_option maxRecDepth 100000

theorem quo1000 {x y : Operand} {m : Int} (h0 : 0 ≤ m) (h1 : m ≤ 1000000000) : binA TT.P .quo 3 x y (.int .i64 m) (.int .i64 1000) = some (.int .i64 (m / 1000), .none) := by
  have h : binA TT.P .quo 3 x y (.int .i64 m) (.int .i64 1000) = some (.int .i64 (IntKind.i64.wrap (m.tdiv 1000)), .none) := by rfl
  rw [h, IntWalk.i64_quo m 1000 (by omega)]

/-! ### A run of a truth -/

def useOf (k : Kind) (t : Truth) (down : Int) (i : Nat) (n : Int) : Int := if down ≤ i then (n * t.man * k.ration + 1000 - 1) / 1000 else n * t.man

def rawAt (men : List Int) (k : Kind) (row : List Int) (t : Truth) (down : Int) (i : Nat) (have_ : Int) : Int :=
  max have_ (min (have_ + row.getD i 0) k.room) - useOf k t down i (men.getD i 0) - t.ship

def haveAt (men : List Int) (k : Kind) (row : List Int) (t : Truth) (down : Int) : Nat → Int
  | 0 => t.first
  | i + 1 => max 0 (rawAt men k row t down i (haveAt men k row t down i))

def shortAt (men : List Int) (k : Kind) (row : List Int) (t : Truth) (down : Int) : Nat → Int
  | 0 => men.length
  | i + 1 => if rawAt men k row t down i (haveAt men k row t down i) < 0 then min (shortAt men k row t down i) i else shortAt men k row t down i

structure RunOk (men : List Int) (k : Kind) (row : List Int) (t : Truth) : Prop where
  men30 : men.length ≤ 30
  men : ∀ n ∈ men, 0 ≤ n ∧ n ≤ 12
  row : RowOk 8 row
  room : 0 ≤ k.room ∧ k.room ≤ 300
  ration : 0 ≤ k.ration ∧ k.ration ≤ 1000
  first : 0 ≤ t.first ∧ t.first ≤ 300
  man : 0 ≤ t.man ∧ t.man ≤ 6
  ship : 0 ≤ t.ship ∧ t.ship ≤ 12

theorem RunOk.n {men : List Int} {k : Kind} {row : List Int} {t : Truth} (h : RunOk men k row t) {i : Nat} (hi : i < men.length) : 0 ≤ men.getD i 0 ∧ men.getD i 0 ≤ 12 := by
  rw [List.getD_eq_getElem?_getD, List.getElem?_eq_getElem hi]
  exact h.men _ (List.getElem_mem _)

theorem mul_bnd {a b A B : Int} (ha : 0 ≤ a ∧ a ≤ A) (hb : 0 ≤ b ∧ b ≤ B) : 0 ≤ a * b ∧ a * b ≤ A * B :=
  ⟨Int.mul_nonneg ha.1 hb.1, Int.mul_le_mul ha.2 hb.2 hb.1 (by omega)⟩

theorem RunOk.useB {men : List Int} {k : Kind} {row : List Int} {t : Truth} (h : RunOk men k row t) (down : Int) {i : Nat} (hi : i < men.length) : 0 ≤ useOf k t down i (men.getD i 0) ∧ useOf k t down i (men.getD i 0) ≤ 72 := by
  have h1 := mul_bnd (h.n hi) h.man
  have h2 := mul_bnd h1 h.ration
  unfold useOf
  split <;> omega

theorem RunOk.haveB {men : List Int} {k : Kind} {row : List Int} {t : Truth} (h : RunOk men k row t) (down : Int) : ∀ i, i ≤ men.length → 0 ≤ haveAt men k row t down i ∧ haveAt men k row t down i ≤ 300
  | 0, _ => h.first
  | i + 1, hi => by
    have ih := h.haveB down i (by omega)
    have h1 := h.useB down (i := i) (by omega)
    have h2 := h.row.get (d := i) (by have := h.men30; omega)
    have h3 := h.room
    have h4 := h.ship
    simp only [haveAt, rawAt]
    omega

theorem have_succ (men : List Int) (k : Kind) (row : List Int) (t : Truth) (down : Int) (i : Nat) : haveAt men k row t down (i + 1) = max 0 (max (haveAt men k row t down i) (min (haveAt men k row t down i + row.getD i 0) k.room) - (if down ≤ i then (men.getD i 0 * t.man * k.ration + 1000 - 1) / 1000 else men.getD i 0 * t.man) - t.ship) := rfl

theorem short_succ (men : List Int) (k : Kind) (row : List Int) (t : Truth) (down : Int) (i : Nat) : shortAt men k row t down (i + 1) = if max (haveAt men k row t down i) (min (haveAt men k row t down i + row.getD i 0) k.room) - (if down ≤ i then (men.getD i 0 * t.man * k.ration + 1000 - 1) / 1000 else men.getD i 0 * t.man) - t.ship < 0 then min (shortAt men k row t down i) i else shortAt men k row t down i := rfl

def capF : Nat → Nat
  | 0 => 1
  | k + 1 => k + 3

abbrev runB (men : List Int) (k : Kind) (row : List Int) (t : Truth) (down : Int) (n : Nat) : AB := .cells ((List.range (n + 1)).map fun i => I64 (haveAt men k row t down i)) 1 n

theorem holdd_one {s : Stores} {k : Kind} {row : List Int} {f : List (List AV)} {b : Bool} : (AV.ag (eHoldV s k row (.sl f b))).cells.all AV.one = true := by
  show (eHoldV s k row (.sl f b)).all AV.one = true
  have h1 : (row.map eC).all AV.one = true := by
    induction row with
    | nil => rfl
    | cons a l ih => exact ih
  rw [List.all_append, List.all_append, h1]
  rfl

theorem holdd_deep {s : Stores} {k : Kind} {row : List Int} {f : List (List AV)} {b : Bool} : deepL (AV.ag (eHoldV s k row (.sl f b))).cells = true := eHold_deep rfl

theorem capF_ok (i : Nat) : capF i = i + 1 ∨ capF i = i + 1 + 1 := by
  cases i <;> simp [capF]

theorem runB_snoc {men : List Int} {k : Kind} {row : List Int} {t : Truth} {down : Int} {i : Nat} {v : Int} (h : haveAt men k row t down (i + 1) = v) :
    [AB.cells (((List.range (i + 1)).map fun i => I64 (haveAt men k row t down i)) ++ [eI v].flatten) 1 (i + 1)] = [runB men k row t down (i + 1)] := by
  rw [runB, List.range_succ (n := i + 1), List.map_append, List.map_cons, h]
  rfl

theorem inbL_map {α : Type} {f : α → AV} {n : Nat} (h : ∀ a, (f a).inb n = true) : ∀ l : List α, inbL n (l.map f) = true
  | [] => rfl
  | a :: l => by simp only [List.map_cons, inbL, h a, inbL_map h l, Bool.and_true]

theorem deepL_map {α : Type} {f : α → AV} (h : ∀ a, (f a).deep = true) : ∀ l : List α, deepL (l.map f) = true
  | [] => rfl
  | a :: l => by simp only [List.map_cons, deepL, h a, deepL_map h l, Bool.and_true]

theorem flat_map1 {α : Type} {f : α → AV} : ∀ l : List α, (l.map fun a => [f a]).flatten = l.map f
  | [] => rfl
  | a :: l => by simp only [List.map_cons, List.flatten_cons, flat_map1 l]; rfl

theorem runB_inb (men : List Int) (k : Kind) (row : List Int) (t : Truth) (down : Int) (i : Nat) : ([runB men k row t down i] : List AB).all (AB.inb 1) = true := by
  simp only [List.all_cons, List.all_nil, Bool.and_true, AB.inb]
  exact inbL_map (fun _ => rfl) _

theorem run_fz (men : List Int) (k : Kind) (row : List Int) (t : Truth) (down : Int) (i : Nat) : Fz [runB men k row t down i] (.osl 0 i 0 (i + 1) (capF i)) (.sl ((List.range (i + 1)).map fun i => eI (haveAt men k row t down i)) false) :=
  Fz.row (es := 1) rfl (by simp) (by simp) (fun el hel => by obtain ⟨x, _, rfl⟩ := List.mem_map.1 hel; rfl) (by rw [flat_map1 (f := fun i => I64 (haveAt men k row t down i)), List.drop_zero, List.take_of_length_le (by simp)]) (by rw [flat_map1 (f := fun i => I64 (haveAt men k row t down i))]; exact deepL_map (fun _ => rfl) _) (fun h => Bool.noConfusion h)

theorem run_c (one : Bool) (s : Stores) (k : Kind) (row : List Int) (cnts : List (List AV)) (t : Truth) (down : Int) (h : RunOk s.men k row t) :
    Pu one 61 [.ag (eHoldV s k row (.sl cnts false)), .ag (eTruth t), I64 down] (.tp [.sl ((List.range (s.men.length + 1)).map fun i => eI (haveAt s.men k row t down i)) false, I64 (shortAt s.men k row t down s.men.length)]) := by
  have em : ((s.men.map eI).length : Int) = s.men.length := by simp
  refine PureV.body (fn := Try.f61) rfl rfl rfl rfl ?_
  refine wpC_sound (mu := fun t => Nat.beq t 69 || Nat.beq t 15) ?_
  refine ⟨rfl, holdd_one, holdd_deep, ?_⟩
  repeat' (first
      | (with_reducible refine wpC_skip ?_)
      | (with_reducible refine wpC_seq ?_)
      | (with_reducible refine wpC_block ?_)
      | (with_reducible refine wpC_drawL ?_)
      | (with_reducible refine wpC_opsL ?_)
      | (with_reducible refine wpC_draw ?_)
      | (with_reducible refine wpC_ops ?_)
      | (with_reducible refine wpOps_nil ?_)
      | (first
          | (with_reducible refine wpOps_cons ?_)
          | (with_reducible refine wpDraw_cons ?_)
         first
          | (with_reducible refine wpGuard_none ?_)
          | (refine wpGuard_yes rfl rfl rfl ?_)
          | (refine wpGuard_no rfl rfl rfl ?_)
          | (refine wpGuard_yes rfl rfl (by assumption) ?_)
          | (refine wpGuard_no rfl rfl (by assumption) ?_)
          | (refine wpGuard_skip rfl rfl ?_)
          | skip)
      | (with_reducible refine putS_some ?_)
      | (with_reducible refine putS_none ?_)
      | (with_reducible refine seqQ_normal ?_)
      | (refine ⟨_, rfl, ?_⟩)
      | (refine guardYes (by assumption) ?_)
      | (refine guardYes rfl ?_)
      | (refine guardNo rfl ?_)
      | (refine guardNo (by assumption) ?_)
      | (refine ⟨_, _, rfl, by decide, ?_⟩)
      | (refine ⟨rfl, rfl, rfl, ?_⟩)
      | (refine ⟨rfl, rfl, ?_⟩)
      | (refine ⟨_, _, rfl, _, rfl, ?_⟩)
      | (refine And.intro (Nat.le_of_ble_eq_true rfl) ?_)
      | (refine And.intro (by omega) ?_)
      | (refine ⟨_, _, rfl, rfl, _, rfl, rfl, ?_⟩)
      | (refine And.intro (by kernel_rfl) ?_)
      | (refine ⟨rfl, rfl, rfl, rfl, rfl, ?_⟩)
      | fail)
  refine SemC.weaker (Weaker.to (l := [(2, I64 down), (3, .pt (eHoldV s k row (.sl cnts false)) 0), (4, .pt (eTruth t) 0), (6, .osl 0 0 0 1 1), (7, I64 s.men.length), (8, I64 t.first), (22, .sl (s.men.map eI) false), (23, I64 s.men.length), (24, I64 ((0 : Nat) : Int))]) (hp := [runB s.men k row t down 0]) 1 rfl ⟨rfl, rfl, rfl, rfl, i64c em, rfl, rfl, i64c em, rfl, trivial⟩ (Nat.zero_le _) rfl rfl) ?_
  refine SemC.loop (fun i : Nat => i ≤ s.men.length) (fun i => ⟨mkFr [(2, I64 down), (3, .pt (eHoldV s k row (.sl cnts false)) 0), (4, .pt (eTruth t) 0), (6, .osl 0 i 0 (i + 1) (capF i)), (7, I64 (shortAt s.men k row t down i)), (8, I64 (haveAt s.men k row t down i)), (22, .sl (s.men.map eI) false), (23, I64 s.men.length), (24, I64 (i : Int))], [runB s.men k row t down i], Amb.none, false, 0⟩) (fun i => s.men.length - i) ?_ 0 (Nat.zero_le _)
  intro i hi
  refine wpC_sound (mu := fun t => Nat.beq t 69 || Nat.beq t 15) ?_
  repeat' (first
      | (with_reducible refine wpC_skip ?_)
      | (with_reducible refine wpC_seq ?_)
      | (with_reducible refine wpC_block ?_)
      | (with_reducible refine wpC_drawL ?_)
      | (with_reducible refine wpC_opsL ?_)
      | (with_reducible refine wpC_draw ?_)
      | (with_reducible refine wpC_ops ?_)
      | (with_reducible refine wpOps_nil ?_)
      | (first
          | (with_reducible refine wpOps_cons ?_)
          | (with_reducible refine wpDraw_cons ?_)
         first
          | (with_reducible refine wpGuard_none ?_)
          | (refine wpGuard_yes rfl rfl rfl ?_)
          | (refine wpGuard_no rfl rfl rfl ?_)
          | (refine wpGuard_yes rfl rfl (by assumption) ?_)
          | (refine wpGuard_no rfl rfl (by assumption) ?_)
          | (refine wpGuard_skip rfl rfl ?_)
          | skip)
      | (with_reducible refine putS_some ?_)
      | (with_reducible refine putS_none ?_)
      | (with_reducible refine seqQ_normal ?_)
      | (refine ⟨_, rfl, ?_⟩)
      | (refine guardYes (by assumption) ?_)
      | (refine guardYes rfl ?_)
      | (refine guardNo rfl ?_)
      | (refine guardNo (by assumption) ?_)
      | (refine ⟨_, _, rfl, by decide, ?_⟩)
      | (refine ⟨rfl, rfl, rfl, ?_⟩)
      | (refine ⟨rfl, rfl, ?_⟩)
      | (refine ⟨_, _, rfl, _, rfl, ?_⟩)
      | (refine And.intro (Nat.le_of_ble_eq_true rfl) ?_)
      | (refine And.intro (by omega) ?_)
      | (refine ⟨_, _, rfl, rfl, _, rfl, rfl, ?_⟩)
      | (refine And.intro (by kernel_rfl) ?_)
      | (refine ⟨rfl, rfl, rfl, rfl, rfl, ?_⟩)
      | fail)
  refine ⟨fun h2 => ?_, fun h2 => ?_⟩
  · have hlt : i < s.men.length := by simpa only [decide_eq_true_eq, Int.ofNat_lt] using h2
    have b1 := h.n hlt
    have b2 := mul_bnd b1 h.man
    have b3 := mul_bnd b2 h.ration
    have b4 := h.haveB down i hi
    have b5 := h.row.get (d := i) (by have := h.men30; omega)
    have b6 := h.room
    have b7 := h.ship
    have hget : s.men[i] = s.men.getD i 0 := by rw [List.getD_eq_getElem?_getD, List.getElem?_eq_getElem hlt]; rfl
    have hhv := have_succ s.men k row t down i
    have hsh := short_succ s.men k row t down i
    rw [← hget] at b1 b2 b3 hhv hsh
    repeat' (first
        | (with_reducible refine wpC_skip ?_)
        | (with_reducible refine wpC_seq ?_)
        | (with_reducible refine wpC_block ?_)
        | (with_reducible refine wpC_drawL ?_)
        | (with_reducible refine wpC_opsL ?_)
        | (with_reducible refine wpC_draw ?_)
        | (with_reducible refine wpC_ops ?_)
        | (with_reducible refine wpOps_nil ?_)
        | (first
            | (with_reducible refine wpOps_cons ?_)
            | (with_reducible refine wpDraw_cons ?_)
           first
            | (with_reducible refine wpGuard_none ?_)
            | (refine wpGuard_yes rfl rfl rfl ?_)
            | (refine wpGuard_no rfl rfl rfl ?_)
            | (refine wpGuard_yes rfl rfl (by assumption) ?_)
            | (refine wpGuard_no rfl rfl (by assumption) ?_)
            | (refine wpGuard_skip rfl rfl ?_)
            | skip)
        | (with_reducible refine putS_some ?_)
        | (with_reducible refine putS_none ?_)
        | (with_reducible refine seqQ_normal ?_)
        | (refine ⟨_, rfl, ?_⟩)
        | (refine guardYes (by assumption) ?_)
        | (refine guardYes rfl ?_)
        | (refine guardNo rfl ?_)
        | (refine guardNo (by assumption) ?_)
        | (refine ⟨_, _, rfl, by decide, ?_⟩)
        | (refine ⟨rfl, rfl, rfl, ?_⟩)
        | (refine ⟨rfl, rfl, ?_⟩)
        | (refine ⟨_, _, rfl, _, rfl, ?_⟩)
        | (refine And.intro (Nat.le_of_ble_eq_true rfl) ?_)
        | (refine And.intro (by omega) ?_)
        | (refine ⟨_, _, rfl, rfl, _, rfl, rfl, ?_⟩)
        | (refine And.intro (by kernel_rfl) ?_)
        | (refine ⟨rfl, rfl, rfl, rfl, rfl, ?_⟩)
        | (refine ⟨eI s.men[i], ⟨by omega, map_at hlt⟩, rfl, ?_⟩)
        | fail)
    generalize s.men[i] = n at b1 b2 b3 hhv hsh
    generalize haveAt s.men k row t down i = hv at b4 hhv hsh
    have b8 := h.men30
    have hd : i < row.length := by rw [h.row.len]; omega
    have hg : (eHoldV s k row (.sl cnts false))[0 + 12 + (i : Int).toNat * 1]? = some (I64 (row.getD i 0)) := hold_get (d := i) hd
    have hq : IntKind.i64.wrap ((n * t.man * k.ration + 1000 - 1).tdiv 1000) = (n * t.man * k.ration + 1000 - 1) / 1000 := IntWalk.i64_quo _ 1000 (by omega)
    repeat' (first
        | (with_reducible refine wpC_skip ?_)
        | (with_reducible refine wpC_seq ?_)
        | (with_reducible refine wpC_block ?_)
        | (with_reducible refine wpC_drawL ?_)
        | (with_reducible refine wpC_opsL ?_)
        | (with_reducible refine wpC_draw ?_)
        | (with_reducible refine wpC_ops ?_)
        | (with_reducible refine wpOps_nil ?_)
        | (first
            | (with_reducible refine wpOps_cons ?_)
            | (with_reducible refine wpDraw_cons ?_)
           first
            | (with_reducible refine wpGuard_none ?_)
            | (refine wpGuard_yes rfl rfl rfl ?_)
            | (refine wpGuard_no rfl rfl rfl ?_)
            | (refine wpGuard_yes rfl rfl (by assumption) ?_)
            | (refine wpGuard_no rfl rfl (by assumption) ?_)
            | (refine wpGuard_skip rfl rfl ?_)
            | skip)
        | (with_reducible refine putS_some ?_)
        | (with_reducible refine putS_none ?_)
        | (with_reducible refine seqQ_normal ?_)
        | (refine ⟨_, rfl, ?_⟩)
        | (refine guardYes (by assumption) ?_)
        | (refine guardYes rfl ?_)
        | (refine guardNo rfl ?_)
        | (refine guardNo (by assumption) ?_)
        | (refine ⟨_, _, rfl, by decide, ?_⟩)
        | (refine ⟨rfl, rfl, rfl, ?_⟩)
        | (refine ⟨rfl, rfl, ?_⟩)
        | (refine ⟨_, _, rfl, _, rfl, ?_⟩)
        | (refine And.intro (Nat.le_of_ble_eq_true rfl) ?_)
        | (refine And.intro (by omega) ?_)
        | (refine ⟨_, _, rfl, rfl, _, rfl, rfl, ?_⟩)
        | (refine And.intro (by kernel_rfl) ?_)
        | (refine ⟨rfl, rfl, rfl, rfl, rfl, ?_⟩)
        | fail)
    refine ⟨fun h3 => ?_, fun h3 => ?_⟩
    · rw [if_pos (show down ≤ (i : Int) by simpa using h3)] at hhv hsh
      repeat' (first
          | (with_reducible refine wpC_skip ?_)
          | (with_reducible refine wpC_seq ?_)
          | (with_reducible refine wpC_block ?_)
          | (with_reducible refine wpC_drawL ?_)
          | (with_reducible refine wpC_opsL ?_)
          | (with_reducible refine wpC_draw ?_)
          | (with_reducible refine wpC_ops ?_)
          | (with_reducible refine wpOps_nil ?_)
          | (first
              | (with_reducible refine wpOps_cons ?_)
              | (with_reducible refine wpDraw_cons ?_)
             first
              | (with_reducible refine wpGuard_none ?_)
              | (refine wpGuard_yes rfl rfl rfl ?_)
              | (refine wpGuard_no rfl rfl rfl ?_)
              | (refine wpGuard_yes rfl rfl (by assumption) ?_)
              | (refine wpGuard_no rfl rfl (by assumption) ?_)
              | (refine wpGuard_skip rfl rfl ?_)
              | skip)
          | (with_reducible refine putS_some ?_)
          | (with_reducible refine putS_none ?_)
          | (with_reducible refine seqQ_normal ?_)
          | (refine ⟨_, rfl, ?_⟩)
          | (refine guardYes (by assumption) ?_)
          | (refine guardYes rfl ?_)
          | (refine guardNo rfl ?_)
          | (refine guardNo (by assumption) ?_)
          | (refine ⟨_, _, rfl, by decide, ?_⟩)
          | (refine ⟨rfl, rfl, rfl, ?_⟩)
          | (refine ⟨rfl, rfl, ?_⟩)
          | (refine ⟨_, _, rfl, _, rfl, ?_⟩)
          | (refine And.intro (Nat.le_of_ble_eq_true rfl) ?_)
          | (refine And.intro (by omega) ?_)
          | (refine ⟨_, _, rfl, rfl, _, rfl, rfl, ?_⟩)
          | (refine And.intro (by kernel_rfl) ?_)
          | (refine ⟨rfl, rfl, rfl, rfl, rfl, ?_⟩)
          | fail)
      rw [hq]
      have hu : 0 ≤ (n * t.man * k.ration + 1000 - 1) / 1000 ∧ (n * t.man * k.ration + 1000 - 1) / 1000 ≤ 72 := by omega
      generalize (n * t.man * k.ration + 1000 - 1) / 1000 = u at hhv hsh hu
      refine ⟨_, hg, ?_⟩
      repeat' (first
          | (with_reducible refine wpC_skip ?_)
          | (with_reducible refine wpC_seq ?_)
          | (with_reducible refine wpC_block ?_)
          | (with_reducible refine wpC_drawL ?_)
          | (with_reducible refine wpC_opsL ?_)
          | (with_reducible refine wpC_draw ?_)
          | (with_reducible refine wpC_ops ?_)
          | (with_reducible refine wpOps_nil ?_)
          | (first
              | (with_reducible refine wpOps_cons ?_)
              | (with_reducible refine wpDraw_cons ?_)
             first
              | (with_reducible refine wpGuard_none ?_)
              | (refine wpGuard_yes rfl rfl rfl ?_)
              | (refine wpGuard_no rfl rfl rfl ?_)
              | (refine wpGuard_yes rfl rfl (by assumption) ?_)
              | (refine wpGuard_no rfl rfl (by assumption) ?_)
              | (refine wpGuard_skip rfl rfl ?_)
              | skip)
          | (with_reducible refine putS_some ?_)
          | (with_reducible refine putS_none ?_)
          | (with_reducible refine seqQ_normal ?_)
          | (refine ⟨_, rfl, ?_⟩)
          | (refine guardYes (by assumption) ?_)
          | (refine guardYes rfl ?_)
          | (refine guardNo rfl ?_)
          | (refine guardNo (by assumption) ?_)
          | (refine ⟨_, _, rfl, by decide, ?_⟩)
          | (refine ⟨rfl, rfl, rfl, ?_⟩)
          | (refine ⟨rfl, rfl, ?_⟩)
          | (refine ⟨_, _, rfl, _, rfl, ?_⟩)
          | (refine And.intro (Nat.le_of_ble_eq_true rfl) ?_)
          | (refine And.intro (by omega) ?_)
          | (refine ⟨_, _, rfl, rfl, _, rfl, rfl, ?_⟩)
          | (refine And.intro (by kernel_rfl) ?_)
          | (refine ⟨rfl, rfl, rfl, rfl, rfl, ?_⟩)
          | (refine ⟨fun h => ?_, fun h => ?_⟩)
          | fail)
      · refine ⟨[eI 0], ⟨fun el hel => by rw [List.mem_singleton.1 hel]; rfl, rfl⟩, rfl, _, rfl, by simp, capF_ok i, And.intro (by dsimp only [List.length]; omega) (by dsimp only [List.length]; omega), fun hn => absurd hn (by simp), fun _ => ?_⟩
        repeat' (first
            | (with_reducible refine wpC_skip ?_)
            | (with_reducible refine wpC_seq ?_)
            | (with_reducible refine wpC_block ?_)
            | (with_reducible refine wpC_drawL ?_)
            | (with_reducible refine wpC_opsL ?_)
            | (with_reducible refine wpC_draw ?_)
            | (with_reducible refine wpC_ops ?_)
            | (with_reducible refine wpOps_nil ?_)
            | (first
                | (with_reducible refine wpOps_cons ?_)
                | (with_reducible refine wpDraw_cons ?_)
               first
                | (with_reducible refine wpGuard_none ?_)
                | (refine wpGuard_yes rfl rfl rfl ?_)
                | (refine wpGuard_no rfl rfl rfl ?_)
                | (refine wpGuard_yes rfl rfl (by assumption) ?_)
                | (refine wpGuard_no rfl rfl (by assumption) ?_)
                | (refine wpGuard_skip rfl rfl ?_)
                | skip)
            | (with_reducible refine putS_some ?_)
            | (with_reducible refine putS_none ?_)
            | (with_reducible refine seqQ_normal ?_)
            | (refine ⟨_, rfl, ?_⟩)
            | (refine guardYes (by assumption) ?_)
            | (refine guardYes rfl ?_)
            | (refine guardNo rfl ?_)
            | (refine guardNo (by assumption) ?_)
            | (refine ⟨_, _, rfl, by decide, ?_⟩)
            | (refine ⟨rfl, rfl, rfl, ?_⟩)
            | (refine ⟨rfl, rfl, ?_⟩)
            | (refine ⟨_, _, rfl, _, rfl, ?_⟩)
            | (refine And.intro (Nat.le_of_ble_eq_true rfl) ?_)
            | (refine And.intro (by omega) ?_)
            | (refine ⟨_, _, rfl, rfl, _, rfl, rfl, ?_⟩)
            | (refine And.intro (by kernel_rfl) ?_)
            | (refine ⟨rfl, rfl, rfl, rfl, rfl, ?_⟩)
            | fail)
        rw [decide_eq_true_eq] at h
        rw [if_pos h] at hsh
        refine ⟨i + 1, hlt, (by dsimp only; omega), Weaker.to 1 (runB_snoc (by rw [hhv]; omega)) ⟨rfl, rfl, rfl, rfl, i64c hsh.symm, i64c (by rw [hhv]; omega), rfl, rfl, i64c (by simp), trivial⟩ (Nat.zero_le _) rfl (runB_inb _ _ _ _ _ _)⟩
      · refine ⟨[eI _], ⟨fun el hel => by rw [List.mem_singleton.1 hel]; rfl, rfl⟩, rfl, _, rfl, by simp, capF_ok i, And.intro (by dsimp only [List.length]; omega) (by dsimp only [List.length]; omega), fun hn => absurd hn (by simp), fun _ => ?_⟩
        repeat' (first
            | (with_reducible refine wpC_skip ?_)
            | (with_reducible refine wpC_seq ?_)
            | (with_reducible refine wpC_block ?_)
            | (with_reducible refine wpC_drawL ?_)
            | (with_reducible refine wpC_opsL ?_)
            | (with_reducible refine wpC_draw ?_)
            | (with_reducible refine wpC_ops ?_)
            | (with_reducible refine wpOps_nil ?_)
            | (first
                | (with_reducible refine wpOps_cons ?_)
                | (with_reducible refine wpDraw_cons ?_)
               first
                | (with_reducible refine wpGuard_none ?_)
                | (refine wpGuard_yes rfl rfl rfl ?_)
                | (refine wpGuard_no rfl rfl rfl ?_)
                | (refine wpGuard_yes rfl rfl (by assumption) ?_)
                | (refine wpGuard_no rfl rfl (by assumption) ?_)
                | (refine wpGuard_skip rfl rfl ?_)
                | skip)
            | (with_reducible refine putS_some ?_)
            | (with_reducible refine putS_none ?_)
            | (with_reducible refine seqQ_normal ?_)
            | (refine ⟨_, rfl, ?_⟩)
            | (refine guardYes (by assumption) ?_)
            | (refine guardYes rfl ?_)
            | (refine guardNo rfl ?_)
            | (refine guardNo (by assumption) ?_)
            | (refine ⟨_, _, rfl, by decide, ?_⟩)
            | (refine ⟨rfl, rfl, rfl, ?_⟩)
            | (refine ⟨rfl, rfl, ?_⟩)
            | (refine ⟨_, _, rfl, _, rfl, ?_⟩)
            | (refine And.intro (Nat.le_of_ble_eq_true rfl) ?_)
            | (refine And.intro (by omega) ?_)
            | (refine ⟨_, _, rfl, rfl, _, rfl, rfl, ?_⟩)
            | (refine And.intro (by kernel_rfl) ?_)
            | (refine ⟨rfl, rfl, rfl, rfl, rfl, ?_⟩)
            | fail)
        rw [decide_eq_false_iff_not] at h
        rw [if_neg h] at hsh
        refine ⟨i + 1, hlt, (by dsimp only; omega), Weaker.to 1 (runB_snoc (by rw [hhv]; omega)) ⟨rfl, rfl, rfl, rfl, i64c hsh.symm, i64c (by rw [hhv]; omega), rfl, rfl, i64c (by simp), trivial⟩ (Nat.zero_le _) rfl (runB_inb _ _ _ _ _ _)⟩
    · rw [if_neg (show ¬ down ≤ (i : Int) by simpa using h3)] at hhv hsh
      clear hq
      have hu : 0 ≤ n * t.man ∧ n * t.man ≤ 72 := by omega
      repeat' (first
          | (with_reducible refine wpC_skip ?_)
          | (with_reducible refine wpC_seq ?_)
          | (with_reducible refine wpC_block ?_)
          | (with_reducible refine wpC_drawL ?_)
          | (with_reducible refine wpC_opsL ?_)
          | (with_reducible refine wpC_draw ?_)
          | (with_reducible refine wpC_ops ?_)
          | (with_reducible refine wpOps_nil ?_)
          | (first
              | (with_reducible refine wpOps_cons ?_)
              | (with_reducible refine wpDraw_cons ?_)
             first
              | (with_reducible refine wpGuard_none ?_)
              | (refine wpGuard_yes rfl rfl rfl ?_)
              | (refine wpGuard_no rfl rfl rfl ?_)
              | (refine wpGuard_yes rfl rfl (by assumption) ?_)
              | (refine wpGuard_no rfl rfl (by assumption) ?_)
              | (refine wpGuard_skip rfl rfl ?_)
              | skip)
          | (with_reducible refine putS_some ?_)
          | (with_reducible refine putS_none ?_)
          | (with_reducible refine seqQ_normal ?_)
          | (refine ⟨_, rfl, ?_⟩)
          | (refine guardYes (by assumption) ?_)
          | (refine guardYes rfl ?_)
          | (refine guardNo rfl ?_)
          | (refine guardNo (by assumption) ?_)
          | (refine ⟨_, _, rfl, by decide, ?_⟩)
          | (refine ⟨rfl, rfl, rfl, ?_⟩)
          | (refine ⟨rfl, rfl, ?_⟩)
          | (refine ⟨_, _, rfl, _, rfl, ?_⟩)
          | (refine And.intro (Nat.le_of_ble_eq_true rfl) ?_)
          | (refine And.intro (by omega) ?_)
          | (refine ⟨_, _, rfl, rfl, _, rfl, rfl, ?_⟩)
          | (refine And.intro (by kernel_rfl) ?_)
          | (refine ⟨rfl, rfl, rfl, rfl, rfl, ?_⟩)
          | fail)
      generalize n * t.man = u at hhv hsh hu
      refine ⟨_, hg, ?_⟩
      repeat' (first
          | (with_reducible refine wpC_skip ?_)
          | (with_reducible refine wpC_seq ?_)
          | (with_reducible refine wpC_block ?_)
          | (with_reducible refine wpC_drawL ?_)
          | (with_reducible refine wpC_opsL ?_)
          | (with_reducible refine wpC_draw ?_)
          | (with_reducible refine wpC_ops ?_)
          | (with_reducible refine wpOps_nil ?_)
          | (first
              | (with_reducible refine wpOps_cons ?_)
              | (with_reducible refine wpDraw_cons ?_)
             first
              | (with_reducible refine wpGuard_none ?_)
              | (refine wpGuard_yes rfl rfl rfl ?_)
              | (refine wpGuard_no rfl rfl rfl ?_)
              | (refine wpGuard_yes rfl rfl (by assumption) ?_)
              | (refine wpGuard_no rfl rfl (by assumption) ?_)
              | (refine wpGuard_skip rfl rfl ?_)
              | skip)
          | (with_reducible refine putS_some ?_)
          | (with_reducible refine putS_none ?_)
          | (with_reducible refine seqQ_normal ?_)
          | (refine ⟨_, rfl, ?_⟩)
          | (refine guardYes (by assumption) ?_)
          | (refine guardYes rfl ?_)
          | (refine guardNo rfl ?_)
          | (refine guardNo (by assumption) ?_)
          | (refine ⟨_, _, rfl, by decide, ?_⟩)
          | (refine ⟨rfl, rfl, rfl, ?_⟩)
          | (refine ⟨rfl, rfl, ?_⟩)
          | (refine ⟨_, _, rfl, _, rfl, ?_⟩)
          | (refine And.intro (Nat.le_of_ble_eq_true rfl) ?_)
          | (refine And.intro (by omega) ?_)
          | (refine ⟨_, _, rfl, rfl, _, rfl, rfl, ?_⟩)
          | (refine And.intro (by kernel_rfl) ?_)
          | (refine ⟨rfl, rfl, rfl, rfl, rfl, ?_⟩)
          | (refine ⟨fun h => ?_, fun h => ?_⟩)
          | fail)
      · refine ⟨[eI 0], ⟨fun el hel => by rw [List.mem_singleton.1 hel]; rfl, rfl⟩, rfl, _, rfl, by simp, capF_ok i, And.intro (by dsimp only [List.length]; omega) (by dsimp only [List.length]; omega), fun hn => absurd hn (by simp), fun _ => ?_⟩
        repeat' (first
            | (with_reducible refine wpC_skip ?_)
            | (with_reducible refine wpC_seq ?_)
            | (with_reducible refine wpC_block ?_)
            | (with_reducible refine wpC_drawL ?_)
            | (with_reducible refine wpC_opsL ?_)
            | (with_reducible refine wpC_draw ?_)
            | (with_reducible refine wpC_ops ?_)
            | (with_reducible refine wpOps_nil ?_)
            | (first
                | (with_reducible refine wpOps_cons ?_)
                | (with_reducible refine wpDraw_cons ?_)
               first
                | (with_reducible refine wpGuard_none ?_)
                | (refine wpGuard_yes rfl rfl rfl ?_)
                | (refine wpGuard_no rfl rfl rfl ?_)
                | (refine wpGuard_yes rfl rfl (by assumption) ?_)
                | (refine wpGuard_no rfl rfl (by assumption) ?_)
                | (refine wpGuard_skip rfl rfl ?_)
                | skip)
            | (with_reducible refine putS_some ?_)
            | (with_reducible refine putS_none ?_)
            | (with_reducible refine seqQ_normal ?_)
            | (refine ⟨_, rfl, ?_⟩)
            | (refine guardYes (by assumption) ?_)
            | (refine guardYes rfl ?_)
            | (refine guardNo rfl ?_)
            | (refine guardNo (by assumption) ?_)
            | (refine ⟨_, _, rfl, by decide, ?_⟩)
            | (refine ⟨rfl, rfl, rfl, ?_⟩)
            | (refine ⟨rfl, rfl, ?_⟩)
            | (refine ⟨_, _, rfl, _, rfl, ?_⟩)
            | (refine And.intro (Nat.le_of_ble_eq_true rfl) ?_)
            | (refine And.intro (by omega) ?_)
            | (refine ⟨_, _, rfl, rfl, _, rfl, rfl, ?_⟩)
            | (refine And.intro (by kernel_rfl) ?_)
            | (refine ⟨rfl, rfl, rfl, rfl, rfl, ?_⟩)
            | fail)
        rw [decide_eq_true_eq] at h
        rw [if_pos h] at hsh
        refine ⟨i + 1, hlt, (by dsimp only; omega), Weaker.to 1 (runB_snoc (by rw [hhv]; omega)) ⟨rfl, rfl, rfl, rfl, i64c hsh.symm, i64c (by rw [hhv]; omega), rfl, rfl, i64c (by simp), trivial⟩ (Nat.zero_le _) rfl (runB_inb _ _ _ _ _ _)⟩
      · refine ⟨[eI _], ⟨fun el hel => by rw [List.mem_singleton.1 hel]; rfl, rfl⟩, rfl, _, rfl, by simp, capF_ok i, And.intro (by dsimp only [List.length]; omega) (by dsimp only [List.length]; omega), fun hn => absurd hn (by simp), fun _ => ?_⟩
        repeat' (first
            | (with_reducible refine wpC_skip ?_)
            | (with_reducible refine wpC_seq ?_)
            | (with_reducible refine wpC_block ?_)
            | (with_reducible refine wpC_drawL ?_)
            | (with_reducible refine wpC_opsL ?_)
            | (with_reducible refine wpC_draw ?_)
            | (with_reducible refine wpC_ops ?_)
            | (with_reducible refine wpOps_nil ?_)
            | (first
                | (with_reducible refine wpOps_cons ?_)
                | (with_reducible refine wpDraw_cons ?_)
               first
                | (with_reducible refine wpGuard_none ?_)
                | (refine wpGuard_yes rfl rfl rfl ?_)
                | (refine wpGuard_no rfl rfl rfl ?_)
                | (refine wpGuard_yes rfl rfl (by assumption) ?_)
                | (refine wpGuard_no rfl rfl (by assumption) ?_)
                | (refine wpGuard_skip rfl rfl ?_)
                | skip)
            | (with_reducible refine putS_some ?_)
            | (with_reducible refine putS_none ?_)
            | (with_reducible refine seqQ_normal ?_)
            | (refine ⟨_, rfl, ?_⟩)
            | (refine guardYes (by assumption) ?_)
            | (refine guardYes rfl ?_)
            | (refine guardNo rfl ?_)
            | (refine guardNo (by assumption) ?_)
            | (refine ⟨_, _, rfl, by decide, ?_⟩)
            | (refine ⟨rfl, rfl, rfl, ?_⟩)
            | (refine ⟨rfl, rfl, ?_⟩)
            | (refine ⟨_, _, rfl, _, rfl, ?_⟩)
            | (refine And.intro (Nat.le_of_ble_eq_true rfl) ?_)
            | (refine And.intro (by omega) ?_)
            | (refine ⟨_, _, rfl, rfl, _, rfl, rfl, ?_⟩)
            | (refine And.intro (by kernel_rfl) ?_)
            | (refine ⟨rfl, rfl, rfl, rfl, rfl, ?_⟩)
            | fail)
        rw [decide_eq_false_iff_not] at h
        rw [if_neg h] at hsh
        refine ⟨i + 1, hlt, (by dsimp only; omega), Weaker.to 1 (runB_snoc (by rw [hhv]; omega)) ⟨rfl, rfl, rfl, rfl, i64c hsh.symm, i64c (by rw [hhv]; omega), rfl, rfl, i64c (by simp), trivial⟩ (Nat.zero_le _) rfl (runB_inb _ _ _ _ _ _)⟩
  · have hi : i = s.men.length := by rw [decide_eq_false_iff_not] at h2; omega
    subst hi
    repeat' (first
        | (with_reducible refine wpC_skip ?_)
        | (with_reducible refine wpC_seq ?_)
        | (with_reducible refine wpC_block ?_)
        | (with_reducible refine wpC_drawL ?_)
        | (with_reducible refine wpC_opsL ?_)
        | (with_reducible refine wpC_draw ?_)
        | (with_reducible refine wpC_ops ?_)
        | (with_reducible refine wpOps_nil ?_)
        | (first
            | (with_reducible refine wpOps_cons ?_)
            | (with_reducible refine wpDraw_cons ?_)
           first
            | (with_reducible refine wpGuard_none ?_)
            | (refine wpGuard_yes rfl rfl rfl ?_)
            | (refine wpGuard_no rfl rfl rfl ?_)
            | (refine wpGuard_yes rfl rfl (by assumption) ?_)
            | (refine wpGuard_no rfl rfl (by assumption) ?_)
            | (refine wpGuard_skip rfl rfl ?_)
            | skip)
        | (with_reducible refine putS_some ?_)
        | (with_reducible refine putS_none ?_)
        | (with_reducible refine seqQ_normal ?_)
        | (refine ⟨_, rfl, ?_⟩)
        | (refine guardYes (by assumption) ?_)
        | (refine guardYes rfl ?_)
        | (refine guardNo rfl ?_)
        | (refine guardNo (by assumption) ?_)
        | (refine ⟨_, _, rfl, by decide, ?_⟩)
        | (refine ⟨rfl, rfl, rfl, ?_⟩)
        | (refine ⟨rfl, rfl, ?_⟩)
        | (refine ⟨_, _, rfl, _, rfl, ?_⟩)
        | (refine And.intro (Nat.le_of_ble_eq_true rfl) ?_)
        | (refine And.intro (by omega) ?_)
        | (refine ⟨_, _, rfl, rfl, _, rfl, rfl, ?_⟩)
        | (refine And.intro (by kernel_rfl) ?_)
        | (refine ⟨rfl, rfl, rfl, rfl, rfl, ?_⟩)
        | fail)
    exact ⟨[_, _], ⟨run_fz _ _ _ _ _ _, Fz.deep rfl, trivial⟩, rfl⟩
end Go.Proofs.Ytmkaeohmdcoanaa
open Go Go.RM
namespace Go.Proofs.Ytmkaeohmdcoanaa
set_option maxRecDepth 100000

/-! ### What a check that finds nothing says -/

theorem firstN_zero {n : Nat} {e : Nat → Int} (h : (firstN n e).2 = 0) : ∀ i, i < n → e i = 0 := by
  intro i hi
  unfold firstN at h
  split at h
  · rename_i j hj
    have := List.find?_some hj
    simp only at h
    rw [h] at this
    exact absurd this (by decide)
  · rename_i hj
    rw [List.find?_eq_none] at hj
    have := hj i (by simpa using hi)
    simpa using this

theorem outB_false {lo hi : Int} {l : List Int} : outB lo hi l = false ↔ ∀ n ∈ l, lo ≤ n ∧ n ≤ hi := by
  unfold outB
  rw [List.any_eq_false]
  constructor
  · intro h n hn
    have := h n hn
    simp at this
    omega
  · intro h n hn
    have := h n hn
    simp
    omega

structure KindGood (k : Kind) : Prop where
  first : 0 ≤ k.first.lo ∧ k.first.lo ≤ k.first.hi ∧ k.first.hi ≤ 300
  man : 0 ≤ k.man.lo ∧ k.man.lo ≤ k.man.hi ∧ k.man.hi ≤ 6
  ship : 0 ≤ k.ship.lo ∧ k.ship.lo ≤ k.ship.hi ∧ k.ship.hi ≤ 12
  room : 0 ≤ k.room ∧ k.room ≤ 300
  ration : 0 ≤ k.ration ∧ k.ration ≤ 1000

theorem kindErr_good {k : Kind} {names : List ByteArray} (h : kindErr k names = 0) : KindGood k := by
  unfold kindErr at h
  split at h
  · exact absurd h (by decide)
  · split at h
    · exact absurd h (by decide)
    · split at h
      · exact absurd h (by decide)
      · rename_i h7
        split at h
        · exact absurd h (by decide)
        · rename_i h2
          simp only [Bool.not_eq_true, Bool.or_eq_false_iff, outB_false, decide_eq_false_iff_not, List.mem_cons, List.not_mem_nil, or_false, forall_eq_or_imp, forall_eq] at h7 h2
          obtain ⟨⟨⟨a, b⟩, c⟩, d⟩ := h7
          constructor <;> omega

structure Good (s : Stores) : Prop where
  sizes : sizesBad s = false
  men : ∀ n ∈ s.men, 0 ≤ n ∧ n ≤ 12
  kinds : ∀ k ∈ s.kinds, KindGood k
  cargos : ∀ c ∈ s.cargos, (0 ≤ c.day ∧ c.day < s.men.length) ∧ (0 ≤ c.amount ∧ c.amount ≤ 300) ∧ 0 ≤ c.kind ∧ c.kind < s.kinds.length

theorem cargoErr_good {s : Stores} {c : Cargo} (h : cargoErr s c = 0) : (0 ≤ c.day ∧ c.day < s.men.length) ∧ (0 ≤ c.amount ∧ c.amount ≤ 300) ∧ 0 ≤ c.kind ∧ c.kind < s.kinds.length := by
  unfold cargoErr at h
  split at h
  · exact absurd h (by decide)
  · rename_i h4
    split at h
    · exact absurd h (by decide)
    · rename_i h7
      simp only [Bool.not_eq_true, Bool.or_eq_false_iff, outB_false, List.mem_cons, List.not_mem_nil, or_false, forall_eq] at h4 h7
      omega

theorem chk_good {s : Stores} (h : (chk s).2.2 = 0) : Good s := by
  cases hb : sizesBad s with
  | true => rw [chk_1 hb] at h; exact absurd h (by decide)
  | false =>
    by_cases hi : 0 ≤ idxF (fun n => outB 0 12 [n]) s.men
    · exfalso
      unfold chk at h
      unfold sizesBad at hb
      rw [if_neg (by rw [hb]; decide)] at h
      simp only [if_pos hi] at h
      exact absurd h (by decide)
    · have hany := idxF_ge (fun n => outB 0 12 [n]) s.men
      rw [decide_eq_false hi] at hany
      have hm : ∀ n ∈ s.men, 0 ≤ n ∧ n ≤ 12 := fun n hn => by
        have := List.any_eq_false.1 hany.symm n hn
        rw [Bool.not_eq_true, outB_false] at this
        exact this n (by simp)
      rw [chk_men hb (fun i hi => outB_false.2 fun n hn => by rw [List.mem_singleton.1 hn]; exact hm _ (List.getElem_mem _))] at h
      by_cases h1 : (firstN s.kinds.length (kErr s)).2 = 0
      · rw [if_neg (by simpa using h1)] at h
        by_cases h2 : (firstN s.cargos.length (cErr s)).2 = 0
        · refine ⟨hb, hm, fun k hk => ?_, fun c hc => ?_⟩
          · obtain ⟨i, hi, rfl⟩ := List.getElem_of_mem hk
            have := firstN_zero h1 i hi
            rw [kErr_at hi] at this
            exact kindErr_good this
          · obtain ⟨i, hi, rfl⟩ := List.getElem_of_mem hc
            have := firstN_zero h2 i hi
            rw [cErr_at hi] at this
            exact cargoErr_good this
        · rw [if_pos h2] at h
          exact absurd h h2
      · rw [if_pos h1] at h
        exact absurd h h1

def truthBad (s : Stores) (k : Kind) (t : Truth) (down : Int) : Bool :=
  outB k.first.lo k.first.hi [t.first] || outB k.man.lo k.man.hi [t.man] || outB k.ship.lo k.ship.hi [t.ship] || outB 0 s.men.length [down]

def morn (s : Stores) (kind : Int) (t : Truth) (down : Int) : List Int × Int × Int :=
  if (chk s).2.2 ≠ 0 then ([], 0, (chk s).2.2)
  else if outB 0 ((s.kinds.length : Int) - 1) [kind] then ([], 0, 4)
  else match s.kinds[kind.toNat]? with
    | none => ([], 0, 4)
    | some k => if truthBad s k t down then ([], 0, 7)
      else ((List.range (s.men.length + 1)).map (haveAt s.men k (cargoRow kind s.cargos) t down), shortAt s.men k (cargoRow kind s.cargos) t down s.men.length, 0)

theorem Good.row {s : Stores} (h : Good s) (k : Int) : RowOk 8 (cargoRow k s.cargos) := by
  have h8 := sizes_ok h.sizes
  have := cargoRow_ok (k := k) (cs := s.cargos) (fun c hc => by have := h.cargos c hc; omega)
  exact ⟨this.len, fun x hx => by have := this.bnd x hx; omega⟩

theorem Good.run {s : Stores} (h : Good s) {k : Kind} (hk : k ∈ s.kinds) (kind : Int) {t : Truth} {down : Int} (ht : truthBad s k t down = false) : RunOk s.men k (cargoRow kind s.cargos) t ∧ 0 ≤ down ∧ down ≤ s.men.length := by
  have h8 := sizes_ok h.sizes
  have hg := h.kinds k hk
  simp only [truthBad, Bool.or_eq_false_iff, outB_false, List.mem_cons, List.not_mem_nil, or_false, forall_eq] at ht
  have := hg.first
  have := hg.man
  have := hg.ship
  exact ⟨⟨by omega, h.men, h.row kind, hg.room, hg.ration, by omega, by omega, by omega⟩, by omega⟩

theorem hold_over {s : Stores} {k : Kind} {row : List Int} {c : AV} (h : row.length = 30) {z : List AV} (hz : z.length = 43) : spliceV z (AV.ag (eHoldV s k row c)).cells 0 = eHoldV s k row c := by
  show [] ++ (eHoldV s k row c) ++ z.drop (0 + (eHoldV s k row c).length) = _
  rw [hold_len h, List.drop_of_length_le (by omega), List.nil_append, List.append_nil]

theorem tpG {a b c a' b' c' : AV} (h1 : a = a') (h2 : b = b') (h3 : c = c') : AV.tp [a, b, c] = AV.tp [a', b', c'] := by rw [h1, h2, h3]
theorem tpG2 {a b a' b' : AV} (h1 : a = a') (h2 : b = b') : AV.tp [a, b] = AV.tp [a', b'] := by rw [h1, h2]
theorem slE {a b : List (List AV)} {f : Bool} (h : a = b) : AV.sl a f = AV.sl b f := by rw [h]

theorem mornings_c (one : Bool) (s : Stores) (h : s.Ok) (kind : Int) (t : Truth) (down : Int) : Pu one 19 [.ag (eStores s), I64 kind, .ag (eTruth t), I64 down] (.tp [.sl ((morn s kind t down).1.map eI) false, I64 (morn s kind t down).2.1, I64 (morn s kind t down).2.2]) := by
  have hcc := check_c s h one
  have hgood := chk_good (s := s)
  have em : ((s.men.map eI).length : Int) = s.men.length := by simp
  have ek : ((s.kinds.map eKind).length : Int) = s.kinds.length := by simp
  unfold morn
  generalize chk s = c at hcc hgood
  refine PureV.body (fn := Try.f19) rfl rfl rfl rfl ?_
  refine wpC_sound (mu := fun _ => false) ?_
  repeat' (first
      | (with_reducible refine wpC_skip ?_)
      | (with_reducible refine wpC_seq ?_)
      | (with_reducible refine wpC_block ?_)
      | (with_reducible refine wpC_drawL ?_)
      | (with_reducible refine wpC_opsL ?_)
      | (with_reducible refine wpC_draw ?_)
      | (with_reducible refine wpC_ops ?_)
      | (with_reducible refine wpOps_nil ?_)
      | (first
          | (with_reducible refine wpOps_cons ?_)
          | (with_reducible refine wpDraw_cons ?_)
         first
          | (with_reducible refine wpGuard_none ?_)
          | (refine wpGuard_yes rfl rfl rfl ?_)
          | (refine wpGuard_no rfl rfl rfl ?_)
          | (refine wpGuard_yes rfl rfl (by assumption) ?_)
          | (refine wpGuard_no rfl rfl (by assumption) ?_)
          | (refine wpGuard_skip rfl rfl ?_)
          | skip)
      | (with_reducible refine putS_some ?_)
      | (with_reducible refine putS_none ?_)
      | (with_reducible refine seqQ_normal ?_)
      | (refine ⟨_, rfl, ?_⟩)
      | (refine guardYes (by assumption) ?_)
      | (refine guardYes rfl ?_)
      | (refine guardNo rfl ?_)
      | (refine guardNo (by assumption) ?_)
      | (refine ⟨_, _, rfl, by decide, ?_⟩)
      | (refine ⟨rfl, rfl, rfl, ?_⟩)
      | (refine ⟨rfl, rfl, ?_⟩)
      | (refine ⟨_, _, rfl, _, rfl, ?_⟩)
      | (refine And.intro (Nat.le_of_ble_eq_true rfl) ?_)
      | (refine And.intro (by omega) ?_)
      | (refine ⟨_, _, rfl, rfl, _, rfl, rfl, ?_⟩)
      | (refine And.intro (by kernel_rfl) ?_)
      | (refine ⟨rfl, rfl, rfl, rfl, rfl, ?_⟩)
      | (refine PureV.call hcc rfl rfl ?_)
      | fail)
  refine ⟨fun h1 => ?_, fun h1 => ?_⟩
  · repeat' (first
        | (with_reducible refine wpC_skip ?_)
        | (with_reducible refine wpC_seq ?_)
        | (with_reducible refine wpC_block ?_)
        | (with_reducible refine wpC_drawL ?_)
        | (with_reducible refine wpC_opsL ?_)
        | (with_reducible refine wpC_draw ?_)
        | (with_reducible refine wpC_ops ?_)
        | (with_reducible refine wpOps_nil ?_)
        | (first
            | (with_reducible refine wpOps_cons ?_)
            | (with_reducible refine wpDraw_cons ?_)
           first
            | (with_reducible refine wpGuard_none ?_)
            | (refine wpGuard_yes rfl rfl rfl ?_)
            | (refine wpGuard_no rfl rfl rfl ?_)
            | (refine wpGuard_yes rfl rfl (by assumption) ?_)
            | (refine wpGuard_no rfl rfl (by assumption) ?_)
            | (refine wpGuard_skip rfl rfl ?_)
            | skip)
        | (with_reducible refine putS_some ?_)
        | (with_reducible refine putS_none ?_)
        | (with_reducible refine seqQ_normal ?_)
        | (refine ⟨_, rfl, ?_⟩)
        | (refine guardYes (by assumption) ?_)
        | (refine guardYes rfl ?_)
        | (refine guardNo rfl ?_)
        | (refine guardNo (by assumption) ?_)
        | (refine ⟨_, _, rfl, by decide, ?_⟩)
        | (refine ⟨rfl, rfl, rfl, ?_⟩)
        | (refine ⟨rfl, rfl, ?_⟩)
        | (refine ⟨_, _, rfl, _, rfl, ?_⟩)
        | (refine And.intro (Nat.le_of_ble_eq_true rfl) ?_)
        | (refine And.intro (by omega) ?_)
        | (refine ⟨_, _, rfl, rfl, _, rfl, rfl, ?_⟩)
        | (refine And.intro (by kernel_rfl) ?_)
        | (refine ⟨rfl, rfl, rfl, rfl, rfl, ?_⟩)
        | fail)
    refine ⟨[_, _, _], ⟨Fz.nil (b := false), Fz.deep rfl, Fz.deep rfl, trivial⟩, ?_⟩
    rw [if_pos (by simpa using h1)]
    rfl
  · have h1 : c.2.2 = 0 := by simpa using h1
    have hk := h.kinds
    unfold maxLen at hk
    repeat' (first
        | (with_reducible refine wpC_skip ?_)
        | (with_reducible refine wpC_seq ?_)
        | (with_reducible refine wpC_block ?_)
        | (with_reducible refine wpC_drawL ?_)
        | (with_reducible refine wpC_opsL ?_)
        | (with_reducible refine wpC_draw ?_)
        | (with_reducible refine wpC_ops ?_)
        | (with_reducible refine wpOps_nil ?_)
        | (first
            | (with_reducible refine wpOps_cons ?_)
            | (with_reducible refine wpDraw_cons ?_)
           first
            | (with_reducible refine wpGuard_none ?_)
            | (refine wpGuard_yes rfl rfl rfl ?_)
            | (refine wpGuard_no rfl rfl rfl ?_)
            | (refine wpGuard_yes rfl rfl (by assumption) ?_)
            | (refine wpGuard_no rfl rfl (by assumption) ?_)
            | (refine wpGuard_skip rfl rfl ?_)
            | skip)
        | (with_reducible refine putS_some ?_)
        | (with_reducible refine putS_none ?_)
        | (with_reducible refine seqQ_normal ?_)
        | (refine ⟨_, rfl, ?_⟩)
        | (refine guardYes (by assumption) ?_)
        | (refine guardYes rfl ?_)
        | (refine guardNo rfl ?_)
        | (refine guardNo (by assumption) ?_)
        | (refine ⟨_, _, rfl, by decide, ?_⟩)
        | (refine ⟨rfl, rfl, rfl, ?_⟩)
        | (refine ⟨rfl, rfl, ?_⟩)
        | (refine ⟨_, _, rfl, _, rfl, ?_⟩)
        | (refine And.intro (Nat.le_of_ble_eq_true rfl) ?_)
        | (refine And.intro (by omega) ?_)
        | (refine ⟨_, _, rfl, rfl, _, rfl, rfl, ?_⟩)
        | (refine And.intro (by kernel_rfl) ?_)
        | (refine ⟨rfl, rfl, rfl, rfl, rfl, ?_⟩)
        | (refine PureV.call (outside_c one _ _ _ _ rfl (Nat.le_of_ble_eq_true rfl)) rfl rfl ?_)
        | fail)
    refine ⟨fun h2 => ?_, fun h2 => ?_⟩
    · have h2 : outB 0 ((s.kinds.length : Int) - 1) [kind] = true := by rw [← ek]; exact h2
      repeat' (first
          | (with_reducible refine wpC_skip ?_)
          | (with_reducible refine wpC_seq ?_)
          | (with_reducible refine wpC_block ?_)
          | (with_reducible refine wpC_drawL ?_)
          | (with_reducible refine wpC_opsL ?_)
          | (with_reducible refine wpC_draw ?_)
          | (with_reducible refine wpC_ops ?_)
          | (with_reducible refine wpOps_nil ?_)
          | (first
              | (with_reducible refine wpOps_cons ?_)
              | (with_reducible refine wpDraw_cons ?_)
             first
              | (with_reducible refine wpGuard_none ?_)
              | (refine wpGuard_yes rfl rfl rfl ?_)
              | (refine wpGuard_no rfl rfl rfl ?_)
              | (refine wpGuard_yes rfl rfl (by assumption) ?_)
              | (refine wpGuard_no rfl rfl (by assumption) ?_)
              | (refine wpGuard_skip rfl rfl ?_)
              | skip)
          | (with_reducible refine putS_some ?_)
          | (with_reducible refine putS_none ?_)
          | (with_reducible refine seqQ_normal ?_)
          | (refine ⟨_, rfl, ?_⟩)
          | (refine guardYes (by assumption) ?_)
          | (refine guardYes rfl ?_)
          | (refine guardNo rfl ?_)
          | (refine guardNo (by assumption) ?_)
          | (refine ⟨_, _, rfl, by decide, ?_⟩)
          | (refine ⟨rfl, rfl, rfl, ?_⟩)
          | (refine ⟨rfl, rfl, ?_⟩)
          | (refine ⟨_, _, rfl, _, rfl, ?_⟩)
          | (refine And.intro (Nat.le_of_ble_eq_true rfl) ?_)
          | (refine And.intro (by omega) ?_)
          | (refine ⟨_, _, rfl, rfl, _, rfl, rfl, ?_⟩)
          | (refine And.intro (by kernel_rfl) ?_)
          | (refine ⟨rfl, rfl, rfl, rfl, rfl, ?_⟩)
          | fail)
      refine ⟨[_, _, _], ⟨Fz.nil (b := false), Fz.deep rfl, Fz.deep rfl, trivial⟩, ?_⟩
      rw [if_neg (by simpa using h1), if_pos h2]
      rfl
    · have h2 : outB 0 ((s.kinds.length : Int) - 1) [kind] = false := by rw [← ek]; exact h2
      have hg := hgood h1
      have h8 := sizes_ok hg.sizes
      have h2' := outB_false.1 h2 kind (by simp)
      obtain ⟨i, rfl⟩ := Int.eq_ofNat_of_zero_le h2'.1
      have hi : i < s.kinds.length := by omega
      have hop := open_c one s [] false i hi (fun c hc => by have := hg.cargos c hc; omega) (by omega) (by simp)
      have h30 := (hg.row i).len
      have hkm : s.kinds[i] ∈ s.kinds := List.getElem_mem hi
      rw [if_neg (by simpa using h1), if_neg (by rw [h2]; decide)]
      simp only [Int.toNat_natCast, List.getElem?_eq_getElem hi]
      have hrun := hg.run hkm (i : Int) (t := t) (down := down)
      generalize cargoRow (i : Int) s.cargos = row at hop h30 hrun ⊢
      generalize s.kinds[i] = k at hop hrun ⊢
      repeat' (first
          | (with_reducible refine wpC_skip ?_)
          | (with_reducible refine wpC_seq ?_)
          | (with_reducible refine wpC_block ?_)
          | (with_reducible refine wpC_drawL ?_)
          | (with_reducible refine wpC_opsL ?_)
          | (with_reducible refine wpC_draw ?_)
          | (with_reducible refine wpC_ops ?_)
          | (with_reducible refine wpOps_nil ?_)
          | (first
              | (with_reducible refine wpOps_cons ?_)
              | (with_reducible refine wpDraw_cons ?_)
             first
              | (with_reducible refine wpGuard_none ?_)
              | (refine wpGuard_yes rfl rfl rfl ?_)
              | (refine wpGuard_no rfl rfl rfl ?_)
              | (refine wpGuard_yes rfl rfl (by assumption) ?_)
              | (refine wpGuard_no rfl rfl (by assumption) ?_)
              | (refine wpGuard_skip rfl rfl ?_)
              | skip)
          | (with_reducible refine putS_some ?_)
          | (with_reducible refine putS_none ?_)
          | (with_reducible refine seqQ_normal ?_)
          | (refine ⟨_, rfl, ?_⟩)
          | (refine guardYes (by assumption) ?_)
          | (refine guardYes rfl ?_)
          | (refine guardNo rfl ?_)
          | (refine guardNo (by assumption) ?_)
          | (refine ⟨_, _, rfl, by decide, ?_⟩)
          | (refine ⟨rfl, rfl, rfl, ?_⟩)
          | (refine ⟨rfl, rfl, ?_⟩)
          | (refine ⟨_, _, rfl, _, rfl, ?_⟩)
          | (refine And.intro (Nat.le_of_ble_eq_true rfl) ?_)
          | (refine And.intro (by omega) ?_)
          | (refine ⟨_, _, rfl, rfl, _, rfl, rfl, ?_⟩)
          | (refine And.intro (by kernel_rfl) ?_)
          | (refine ⟨rfl, rfl, rfl, rfl, rfl, ?_⟩)
          | (refine CallV.soft (SoftL.cons (Soft.refl _) (SoftL.cons (Soft.nil false) (SoftL.cons (Soft.refl _) SoftL.nil))) (PureV.call hop rfl rfl ?_))
          | (refine ⟨_, _, rfl, rfl, holdd_one, hold_len h30, Nat.le_of_ble_eq_true rfl, ?_⟩)
          | fail)
      rw [hold_over h30 (by rfl)]
      repeat' (first
          | (with_reducible refine wpC_skip ?_)
          | (with_reducible refine wpC_seq ?_)
          | (with_reducible refine wpC_block ?_)
          | (with_reducible refine wpC_drawL ?_)
          | (with_reducible refine wpC_opsL ?_)
          | (with_reducible refine wpC_draw ?_)
          | (with_reducible refine wpC_ops ?_)
          | (with_reducible refine wpOps_nil ?_)
          | (first
              | (with_reducible refine wpOps_cons ?_)
              | (with_reducible refine wpDraw_cons ?_)
             first
              | (with_reducible refine wpGuard_none ?_)
              | (refine wpGuard_yes rfl rfl rfl ?_)
              | (refine wpGuard_no rfl rfl rfl ?_)
              | (refine wpGuard_yes rfl rfl (by assumption) ?_)
              | (refine wpGuard_no rfl rfl (by assumption) ?_)
              | (refine wpGuard_skip rfl rfl ?_)
              | skip)
          | (with_reducible refine putS_some ?_)
          | (with_reducible refine putS_none ?_)
          | (with_reducible refine seqQ_normal ?_)
          | (refine ⟨_, rfl, ?_⟩)
          | (refine guardYes (by assumption) ?_)
          | (refine guardYes rfl ?_)
          | (refine guardNo rfl ?_)
          | (refine guardNo (by assumption) ?_)
          | (refine ⟨_, _, rfl, by decide, ?_⟩)
          | (refine ⟨rfl, rfl, rfl, ?_⟩)
          | (refine ⟨rfl, rfl, ?_⟩)
          | (refine ⟨_, _, rfl, _, rfl, ?_⟩)
          | (refine And.intro (Nat.le_of_ble_eq_true rfl) ?_)
          | (refine And.intro (by omega) ?_)
          | (refine ⟨_, _, rfl, rfl, _, rfl, rfl, ?_⟩)
          | (refine And.intro (by kernel_rfl) ?_)
          | (refine ⟨rfl, rfl, rfl, rfl, rfl, ?_⟩)
          | (refine PureV.call (outside_c one _ _ _ _ rfl (Nat.le_of_ble_eq_true rfl)) rfl rfl ?_)
          | (refine ⟨fun h => ?_, fun h => ?_⟩)
          | fail)
      all_goals first
        | (have hb : truthBad s k t down = true := by
             unfold truthBad
             simp_all [cells_fl, unI_fl]
           rw [if_pos hb]
           refine ⟨[_, _, _], ⟨Fz.nil (b := false), Fz.deep rfl, Fz.deep rfl, trivial⟩, ?_⟩
           rfl)
        | skip
      have hb : truthBad s k t down = false := by
        unfold truthBad
        simp_all [cells_fl, unI_fl]
      have hr := run_c one s k row (([] : List Count).filter (fun c => decide (c.kind = (i : Int))) |>.map eCount) t down (hrun hb).1
      rw [if_neg (by rw [hb]; decide)]
      repeat' (first
          | (with_reducible refine wpC_skip ?_)
          | (with_reducible refine wpC_seq ?_)
          | (with_reducible refine wpC_block ?_)
          | (with_reducible refine wpC_drawL ?_)
          | (with_reducible refine wpC_opsL ?_)
          | (with_reducible refine wpC_draw ?_)
          | (with_reducible refine wpC_ops ?_)
          | (with_reducible refine wpOps_nil ?_)
          | (first
              | (with_reducible refine wpOps_cons ?_)
              | (with_reducible refine wpDraw_cons ?_)
             first
              | (with_reducible refine wpGuard_none ?_)
              | (refine wpGuard_yes rfl rfl rfl ?_)
              | (refine wpGuard_no rfl rfl rfl ?_)
              | (refine wpGuard_yes rfl rfl (by assumption) ?_)
              | (refine wpGuard_no rfl rfl (by assumption) ?_)
              | (refine wpGuard_skip rfl rfl ?_)
              | skip)
          | (with_reducible refine putS_some ?_)
          | (with_reducible refine putS_none ?_)
          | (with_reducible refine seqQ_normal ?_)
          | (refine ⟨_, rfl, ?_⟩)
          | (refine guardYes (by assumption) ?_)
          | (refine guardYes rfl ?_)
          | (refine guardNo rfl ?_)
          | (refine guardNo (by assumption) ?_)
          | (refine ⟨_, _, rfl, by decide, ?_⟩)
          | (refine ⟨rfl, rfl, rfl, ?_⟩)
          | (refine ⟨rfl, rfl, ?_⟩)
          | (refine ⟨_, _, rfl, _, rfl, ?_⟩)
          | (refine And.intro (Nat.le_of_ble_eq_true rfl) ?_)
          | (refine And.intro (by omega) ?_)
          | (refine ⟨_, _, rfl, rfl, _, rfl, rfl, ?_⟩)
          | (refine And.intro (by kernel_rfl) ?_)
          | (refine ⟨rfl, rfl, rfl, rfl, rfl, ?_⟩)
          | (refine ⟨_, _, rfl, by rw [hold_len h30]; omega, ?_⟩)
          | fail)
      rw [hold_all h30]
      repeat' (first
          | (with_reducible refine wpC_skip ?_)
          | (with_reducible refine wpC_seq ?_)
          | (with_reducible refine wpC_block ?_)
          | (with_reducible refine wpC_drawL ?_)
          | (with_reducible refine wpC_opsL ?_)
          | (with_reducible refine wpC_draw ?_)
          | (with_reducible refine wpC_ops ?_)
          | (with_reducible refine wpOps_nil ?_)
          | (first
              | (with_reducible refine wpOps_cons ?_)
              | (with_reducible refine wpDraw_cons ?_)
             first
              | (with_reducible refine wpGuard_none ?_)
              | (refine wpGuard_yes rfl rfl rfl ?_)
              | (refine wpGuard_no rfl rfl rfl ?_)
              | (refine wpGuard_yes rfl rfl (by assumption) ?_)
              | (refine wpGuard_no rfl rfl (by assumption) ?_)
              | (refine wpGuard_skip rfl rfl ?_)
              | skip)
          | (with_reducible refine putS_some ?_)
          | (with_reducible refine putS_none ?_)
          | (with_reducible refine seqQ_normal ?_)
          | (refine ⟨_, rfl, ?_⟩)
          | (refine guardYes (by assumption) ?_)
          | (refine guardYes rfl ?_)
          | (refine guardNo rfl ?_)
          | (refine guardNo (by assumption) ?_)
          | (refine ⟨_, _, rfl, by decide, ?_⟩)
          | (refine ⟨rfl, rfl, rfl, ?_⟩)
          | (refine ⟨rfl, rfl, ?_⟩)
          | (refine ⟨_, _, rfl, _, rfl, ?_⟩)
          | (refine And.intro (Nat.le_of_ble_eq_true rfl) ?_)
          | (refine And.intro (by omega) ?_)
          | (refine ⟨_, _, rfl, rfl, _, rfl, rfl, ?_⟩)
          | (refine And.intro (by kernel_rfl) ?_)
          | (refine ⟨rfl, rfl, rfl, rfl, rfl, ?_⟩)
          | (refine PureV.call hr rfl (by simp only [deepL, Bool.and_true, eHold_deep (c := .sl _ false) rfl]; rfl) ?_)
          | fail)
      refine ⟨[_, _, _], ⟨Fz.deep rfl, Fz.deep rfl, Fz.deep rfl, trivial⟩, ?_⟩
      refine tpG (slE ?_) rfl rfl
      rw [List.map_map]
      rfl
end Go.Proofs.Ytmkaeohmdcoanaa
open Go Go.RM
namespace Go.Proofs.Ytmkaeohmdcoanaa
set_option maxRecDepth 100000

/-! ### The document's side: truth, day, run -/

def truthOk (k : Kind) (t : Truth) : Bool := inB t.first k.first.lo k.first.hi && (inB t.man k.man.lo k.man.hi && inB t.ship k.ship.lo k.ship.hi)

theorem truth_c (one : Bool) (k : Kind) (t : Truth) : Pu one 45 [.ag (eKind k), .ag (eTruth t)] (BB (truthOk k t)) := by
  refine PureV.body (fn := Try.f45) rfl rfl rfl rfl ?_
  refine wpC_sound (mu := fun _ => false) ?_
  repeat' (first
      | (with_reducible refine wpC_skip ?_)
      | (with_reducible refine wpC_seq ?_)
      | (with_reducible refine wpC_block ?_)
      | (with_reducible refine wpC_drawL ?_)
      | (with_reducible refine wpC_opsL ?_)
      | (with_reducible refine wpC_draw ?_)
      | (with_reducible refine wpC_ops ?_)
      | (with_reducible refine wpOps_nil ?_)
      | (first
          | (with_reducible refine wpOps_cons ?_)
          | (with_reducible refine wpDraw_cons ?_)
         first
          | (with_reducible refine wpGuard_none ?_)
          | (refine wpGuard_yes rfl rfl rfl ?_)
          | (refine wpGuard_no rfl rfl rfl ?_)
          | (refine wpGuard_yes rfl rfl (by assumption) ?_)
          | (refine wpGuard_no rfl rfl (by assumption) ?_)
          | (refine wpGuard_skip rfl rfl ?_)
          | skip)
      | (with_reducible refine putS_some ?_)
      | (with_reducible refine putS_none ?_)
      | (with_reducible refine seqQ_normal ?_)
      | (refine ⟨_, rfl, ?_⟩)
      | (refine guardYes (by assumption) ?_)
      | (refine guardYes rfl ?_)
      | (refine guardNo rfl ?_)
      | (refine guardNo (by assumption) ?_)
      | (refine ⟨_, _, rfl, by decide, ?_⟩)
      | (refine ⟨rfl, rfl, rfl, ?_⟩)
      | (refine ⟨rfl, rfl, ?_⟩)
      | (refine ⟨_, _, rfl, _, rfl, ?_⟩)
      | (refine And.intro (Nat.le_of_ble_eq_true rfl) ?_)
      | (refine And.intro (by omega) ?_)
      | (refine ⟨_, _, rfl, rfl, _, rfl, rfl, ?_⟩)
      | (refine And.intro (by kernel_rfl) ?_)
      | (refine ⟨rfl, rfl, rfl, rfl, rfl, ?_⟩)
      | (refine PureV.call (in58_c one _ _ _) rfl rfl ?_)
      | (refine ⟨fun h => ?_, fun h => ?_⟩)
      | fail)
  all_goals refine ⟨[_], ⟨Fz.deep rfl, trivial⟩, bbc ?_⟩
  all_goals simp_all [truthOk]

theorem addCargo_getD {k : Int} {l : List Int} {c : Cargo} {d : Nat} (hd : d < l.length) (hc : 0 ≤ c.day) : (addCargo k l c).getD d 0 = if c.day = (d : Int) ∧ c.kind = k then l.getD d 0 + c.amount else l.getD d 0 := by
  unfold addCargo
  by_cases hk : c.kind = k
  · rw [if_pos hk]
    by_cases he : c.day = (d : Int)
    · rw [if_pos ⟨he, hk⟩, he, Int.toNat_natCast]
      rw [List.getD_eq_getElem?_getD, List.getElem?_set_self (by omega)]
      rfl
    · rw [if_neg (fun h => he h.1)]
      rw [List.getD_eq_getElem?_getD, List.getElem?_set_ne (by omega), ← List.getD_eq_getElem?_getD]
  · rw [if_neg hk, if_neg (fun h => hk h.2)]

theorem tpG4 {a b c d a' b' c' d' : AV} (h1 : a = a') (h2 : b = b') (h3 : c = c') (h4 : d = d') : AV.tp [a, b, c, d] = AV.tp [a', b', c', d'] := by rw [h1, h2, h3, h4]

def wasteAt (k : Kind) (row : List Int) (i : Nat) (hv : Int) : Int := max 0 (min (row.getD i 0) (hv + row.getD i 0 - k.room))
def usedAt (men : List Int) (k : Kind) (row : List Int) (t : Truth) (down : Int) (i : Nat) (hv : Int) : Int :=
  if rawAt men k row t down i hv < 0 then max hv (min (hv + row.getD i 0) k.room) else useOf k t down i (men.getD i 0) + t.ship

theorem day_c (one : Bool) (s : Stores) (hg : Good s) (i : Nat) (hi : i < s.kinds.length) (t : Truth) (down : Int) (h : RunOk s.men s.kinds[i] (cargoRow i s.cargos) t) (d : Nat) (hd : d < s.men.length) (hv : Int) (hh : 0 ≤ hv ∧ hv ≤ 300) :
    Pu one 94 [.ag (eStores s), I64 i, .ag (eTruth t), I64 d, I64 hv, BB (decide (down ≤ (d : Int)))] (.tp [I64 (max 0 (rawAt s.men s.kinds[i] (cargoRow i s.cargos) t down d hv)), I64 (wasteAt s.kinds[i] (cargoRow i s.cargos) d hv), I64 (usedAt s.men s.kinds[i] (cargoRow i s.cargos) t down d hv), BB (decide (rawAt s.men s.kinds[i] (cargoRow i s.cargos) t down d hv < 0))]) := by
  have ec : ((s.cargos.map eCargo).length : Int) = s.cargos.length := by simp
  have h8 := sizes_ok hg.sizes
  refine PureV.body (fn := Try.f94) rfl rfl rfl rfl ?_
  refine wpC_sound (mu := fun _ => false) ?_
  repeat' (first
      | (with_reducible refine wpC_skip ?_)
      | (with_reducible refine wpC_seq ?_)
      | (with_reducible refine wpC_block ?_)
      | (with_reducible refine wpC_drawL ?_)
      | (with_reducible refine wpC_opsL ?_)
      | (with_reducible refine wpC_draw ?_)
      | (with_reducible refine wpC_ops ?_)
      | (with_reducible refine wpOps_nil ?_)
      | (first
          | (with_reducible refine wpOps_cons ?_)
          | (with_reducible refine wpDraw_cons ?_)
         first
          | (with_reducible refine wpGuard_none ?_)
          | (refine wpGuard_yes rfl rfl rfl ?_)
          | (refine wpGuard_no rfl rfl rfl ?_)
          | (refine wpGuard_yes rfl rfl (by assumption) ?_)
          | (refine wpGuard_no rfl rfl (by assumption) ?_)
          | (refine wpGuard_skip rfl rfl ?_)
          | skip)
      | (with_reducible refine putS_some ?_)
      | (with_reducible refine putS_none ?_)
      | (with_reducible refine seqQ_normal ?_)
      | (refine ⟨_, rfl, ?_⟩)
      | (refine guardYes (by assumption) ?_)
      | (refine guardYes rfl ?_)
      | (refine guardNo rfl ?_)
      | (refine guardNo (by assumption) ?_)
      | (refine ⟨_, _, rfl, by decide, ?_⟩)
      | (refine ⟨rfl, rfl, rfl, ?_⟩)
      | (refine ⟨rfl, rfl, ?_⟩)
      | (refine ⟨_, _, rfl, _, rfl, ?_⟩)
      | (refine And.intro (Nat.le_of_ble_eq_true rfl) ?_)
      | (refine And.intro (by omega) ?_)
      | (refine ⟨_, _, rfl, rfl, _, rfl, rfl, ?_⟩)
      | (refine And.intro (by kernel_rfl) ?_)
      | (refine ⟨rfl, rfl, rfl, rfl, rfl, ?_⟩)
      | fail)
  refine SemC.weaker (Weaker.to (l := [(1, I64 i), (3, I64 d), (4, I64 hv), (5, BB (decide (down ≤ (d : Int)))), (6, .pt (eStores s) 0), (8, .pt (eTruth t) 0), (16, I64 ((cargoRow i (s.cargos.take 0)).getD d 0)), (17, I64 ((0 : Nat) : Int))]) 0 rfl ⟨rfl, rfl, rfl, rfl, rfl, rfl, i64c (by have := (RowOk.zero (k := (i : Int))).get (d := d) (by omega); show 0 = (cargoRow i []).getD d 0; omega), rfl, trivial⟩ (Nat.zero_le _) rfl rfl) ?_
  refine SemC.loop (fun j : Nat => j ≤ s.cargos.length) (fun j => ⟨mkFr [(1, I64 i), (3, I64 d), (4, I64 hv), (5, BB (decide (down ≤ (d : Int)))), (6, .pt (eStores s) 0), (8, .pt (eTruth t) 0), (16, I64 ((cargoRow i (s.cargos.take j)).getD d 0)), (17, I64 (j : Int))], [], Amb.none, false, 0⟩) (fun j => s.cargos.length - j) ?_ 0 (Nat.zero_le _)
  intro j hj
  have hrow : RowOk (s.cargos.take j).length (cargoRow i (s.cargos.take j)) := cargoRow_ok fun c hx => by have := hg.cargos c (List.mem_of_mem_take hx); omega
  have hrl : (s.cargos.take j).length = j := by simp; omega
  rw [hrl] at hrow
  have hget := hrow.get (d := d) (by omega)
  refine wpC_sound (mu := fun _ => false) ?_
  repeat' (first
      | (with_reducible refine wpC_skip ?_)
      | (with_reducible refine wpC_seq ?_)
      | (with_reducible refine wpC_block ?_)
      | (with_reducible refine wpC_drawL ?_)
      | (with_reducible refine wpC_opsL ?_)
      | (with_reducible refine wpC_draw ?_)
      | (with_reducible refine wpC_ops ?_)
      | (with_reducible refine wpOps_nil ?_)
      | (first
          | (with_reducible refine wpOps_cons ?_)
          | (with_reducible refine wpDraw_cons ?_)
         first
          | (with_reducible refine wpGuard_none ?_)
          | (refine wpGuard_yes rfl rfl rfl ?_)
          | (refine wpGuard_no rfl rfl rfl ?_)
          | (refine wpGuard_yes rfl rfl (by assumption) ?_)
          | (refine wpGuard_no rfl rfl (by assumption) ?_)
          | (refine wpGuard_skip rfl rfl ?_)
          | skip)
      | (with_reducible refine putS_some ?_)
      | (with_reducible refine putS_none ?_)
      | (with_reducible refine seqQ_normal ?_)
      | (refine ⟨_, rfl, ?_⟩)
      | (refine guardYes (by assumption) ?_)
      | (refine guardYes rfl ?_)
      | (refine guardNo rfl ?_)
      | (refine guardNo (by assumption) ?_)
      | (refine ⟨_, _, rfl, by decide, ?_⟩)
      | (refine ⟨rfl, rfl, rfl, ?_⟩)
      | (refine ⟨rfl, rfl, ?_⟩)
      | (refine ⟨_, _, rfl, _, rfl, ?_⟩)
      | (refine And.intro (Nat.le_of_ble_eq_true rfl) ?_)
      | (refine And.intro (by omega) ?_)
      | (refine ⟨_, _, rfl, rfl, _, rfl, rfl, ?_⟩)
      | (refine And.intro (by kernel_rfl) ?_)
      | (refine ⟨rfl, rfl, rfl, rfl, rfl, ?_⟩)
      | fail)
  refine ⟨fun h2 => ?_, fun h2 => ?_⟩
  · have hlt : j < s.cargos.length := by simpa only [ec, decide_eq_true_eq, Int.ofNat_lt] using h2
    have hcj := hg.cargos s.cargos[j] (List.getElem_mem hlt)
    have hrow' : (cargoRow i (s.cargos.take (j + 1))).getD d 0 = if s.cargos[j].day = (d : Int) ∧ s.cargos[j].kind = (i : Int) then (cargoRow i (s.cargos.take j)).getD d 0 + s.cargos[j].amount else (cargoRow i (s.cargos.take j)).getD d 0 := by
      rw [List.take_add_one, List.getElem?_eq_getElem hlt]
      exact (congrArg (fun l => l.getD d 0) (cargoRow_snoc _ _ _)).trans (addCargo_getD (by rw [hrow.len]; omega) hcj.1.1)
    generalize (cargoRow i (s.cargos.take j)).getD d 0 = sum at hget hrow'
    repeat' (first
        | (with_reducible refine wpC_skip ?_)
        | (with_reducible refine wpC_seq ?_)
        | (with_reducible refine wpC_block ?_)
        | (with_reducible refine wpC_drawL ?_)
        | (with_reducible refine wpC_opsL ?_)
        | (with_reducible refine wpC_draw ?_)
        | (with_reducible refine wpC_ops ?_)
        | (with_reducible refine wpOps_nil ?_)
        | (first
            | (with_reducible refine wpOps_cons ?_)
            | (with_reducible refine wpDraw_cons ?_)
           first
            | (with_reducible refine wpGuard_none ?_)
            | (refine wpGuard_yes rfl rfl rfl ?_)
            | (refine wpGuard_no rfl rfl rfl ?_)
            | (refine wpGuard_yes rfl rfl (by assumption) ?_)
            | (refine wpGuard_no rfl rfl (by assumption) ?_)
            | (refine wpGuard_skip rfl rfl ?_)
            | skip)
        | (with_reducible refine putS_some ?_)
        | (with_reducible refine putS_none ?_)
        | (with_reducible refine seqQ_normal ?_)
        | (refine ⟨_, rfl, ?_⟩)
        | (refine guardYes (by assumption) ?_)
        | (refine guardYes rfl ?_)
        | (refine guardNo rfl ?_)
        | (refine guardNo (by assumption) ?_)
        | (refine ⟨_, _, rfl, by decide, ?_⟩)
        | (refine ⟨rfl, rfl, rfl, ?_⟩)
        | (refine ⟨rfl, rfl, ?_⟩)
        | (refine ⟨_, _, rfl, _, rfl, ?_⟩)
        | (refine And.intro (Nat.le_of_ble_eq_true rfl) ?_)
        | (refine And.intro (by omega) ?_)
        | (refine ⟨_, _, rfl, rfl, _, rfl, rfl, ?_⟩)
        | (refine And.intro (by kernel_rfl) ?_)
        | (refine ⟨rfl, rfl, rfl, rfl, rfl, ?_⟩)
        | (refine ⟨eCargo s.cargos[j], ⟨by omega, map_at hlt⟩, rfl, ?_⟩)
        | (refine ⟨fun h => ?_, fun h => ?_⟩)
        | fail)
    all_goals refine ⟨j + 1, hlt, (by dsimp only; omega), Weaker.to 0 rfl ⟨rfl, rfl, rfl, rfl, rfl, rfl, i64c ?_, i64c (by simp), trivial⟩ (Nat.zero_le _) rfl rfl⟩
    all_goals rw [hrow']
    all_goals simp_all
  · have hj : s.cargos.take j = s.cargos := List.take_of_length_le (by rw [ec, decide_eq_false_iff_not] at h2; omega)
    rw [hj] at hget ⊢
    have b1 := h.n hd
    have b2 := mul_bnd b1 h.man
    have b3 := mul_bnd b2 h.ration
    have b6 := h.room
    have b7 := h.ship
    have hgd : s.men[d] = s.men.getD d 0 := by rw [List.getD_eq_getElem?_getD, List.getElem?_eq_getElem hd]; rfl
    have hget8 : (cargoRow i s.cargos).getD d 0 ≤ 2400 := by omega
    unfold usedAt wasteAt rawAt useOf
    rw [← hgd] at b1 b2 b3 ⊢
    generalize (cargoRow i s.cargos).getD d 0 = c at hget hget8 ⊢
    have hq : IntKind.i64.wrap ((s.men[d] * t.man * s.kinds[i].ration + 1000 - 1).tdiv 1000) = (s.men[d] * t.man * s.kinds[i].ration + 1000 - 1) / 1000 := IntWalk.i64_quo _ 1000 (by omega)
    repeat' (first
        | (with_reducible refine wpC_skip ?_)
        | (with_reducible refine wpC_seq ?_)
        | (with_reducible refine wpC_block ?_)
        | (with_reducible refine wpC_drawL ?_)
        | (with_reducible refine wpC_opsL ?_)
        | (with_reducible refine wpC_draw ?_)
        | (with_reducible refine wpC_ops ?_)
        | (with_reducible refine wpOps_nil ?_)
        | (first
            | (with_reducible refine wpOps_cons ?_)
            | (with_reducible refine wpDraw_cons ?_)
           first
            | (with_reducible refine wpGuard_none ?_)
            | (refine wpGuard_yes rfl rfl rfl ?_)
            | (refine wpGuard_no rfl rfl rfl ?_)
            | (refine wpGuard_yes rfl rfl (by assumption) ?_)
            | (refine wpGuard_no rfl rfl (by assumption) ?_)
            | (refine wpGuard_skip rfl rfl ?_)
            | skip)
        | (with_reducible refine putS_some ?_)
        | (with_reducible refine putS_none ?_)
        | (with_reducible refine seqQ_normal ?_)
        | (refine ⟨_, rfl, ?_⟩)
        | (refine guardYes (by assumption) ?_)
        | (refine guardYes rfl ?_)
        | (refine guardNo rfl ?_)
        | (refine guardNo (by assumption) ?_)
        | (refine ⟨_, _, rfl, by decide, ?_⟩)
        | (refine ⟨rfl, rfl, rfl, ?_⟩)
        | (refine ⟨rfl, rfl, ?_⟩)
        | (refine ⟨_, _, rfl, _, rfl, ?_⟩)
        | (refine And.intro (Nat.le_of_ble_eq_true rfl) ?_)
        | (refine And.intro (by omega) ?_)
        | (refine ⟨_, _, rfl, rfl, _, rfl, rfl, ?_⟩)
        | (refine And.intro (by kernel_rfl) ?_)
        | (refine ⟨rfl, rfl, rfl, rfl, rfl, ?_⟩)
        | (refine ⟨eKind s.kinds[i], ⟨by omega, map_at hi⟩, rfl, ?_⟩)
        | (refine ⟨eI s.men[d], ⟨by omega, map_at hd⟩, rfl, ?_⟩)
        | fail)
    refine ⟨fun h3 => ?_, fun h3 => ?_⟩
    · rw [if_pos (show down ≤ (d : Int) by simpa using h3)]
      repeat' (first
          | (with_reducible refine wpC_skip ?_)
          | (with_reducible refine wpC_seq ?_)
          | (with_reducible refine wpC_block ?_)
          | (with_reducible refine wpC_drawL ?_)
          | (with_reducible refine wpC_opsL ?_)
          | (with_reducible refine wpC_draw ?_)
          | (with_reducible refine wpC_ops ?_)
          | (with_reducible refine wpOps_nil ?_)
          | (first
              | (with_reducible refine wpOps_cons ?_)
              | (with_reducible refine wpDraw_cons ?_)
             first
              | (with_reducible refine wpGuard_none ?_)
              | (refine wpGuard_yes rfl rfl rfl ?_)
              | (refine wpGuard_no rfl rfl rfl ?_)
              | (refine wpGuard_yes rfl rfl (by assumption) ?_)
              | (refine wpGuard_no rfl rfl (by assumption) ?_)
              | (refine wpGuard_skip rfl rfl ?_)
              | skip)
          | (with_reducible refine putS_some ?_)
          | (with_reducible refine putS_none ?_)
          | (with_reducible refine seqQ_normal ?_)
          | (refine ⟨_, rfl, ?_⟩)
          | (refine guardYes (by assumption) ?_)
          | (refine guardYes rfl ?_)
          | (refine guardNo rfl ?_)
          | (refine guardNo (by assumption) ?_)
          | (refine ⟨_, _, rfl, by decide, ?_⟩)
          | (refine ⟨rfl, rfl, rfl, ?_⟩)
          | (refine ⟨rfl, rfl, ?_⟩)
          | (refine ⟨_, _, rfl, _, rfl, ?_⟩)
          | (refine And.intro (Nat.le_of_ble_eq_true rfl) ?_)
          | (refine And.intro (by omega) ?_)
          | (refine ⟨_, _, rfl, rfl, _, rfl, rfl, ?_⟩)
          | (refine And.intro (by kernel_rfl) ?_)
          | (refine ⟨rfl, rfl, rfl, rfl, rfl, ?_⟩)
          | (refine ⟨eKind s.kinds[i], ⟨by omega, map_at hi⟩, rfl, ?_⟩)
          | fail)
      rw [hq]
      have hu : 0 ≤ (s.men[d] * t.man * s.kinds[i].ration + 1000 - 1) / 1000 ∧ (s.men[d] * t.man * s.kinds[i].ration + 1000 - 1) / 1000 ≤ 72 := by omega
      generalize (s.men[d] * t.man * s.kinds[i].ration + 1000 - 1) / 1000 = u at hu ⊢
      repeat' (first
          | (with_reducible refine wpC_skip ?_)
          | (with_reducible refine wpC_seq ?_)
          | (with_reducible refine wpC_block ?_)
          | (with_reducible refine wpC_drawL ?_)
          | (with_reducible refine wpC_opsL ?_)
          | (with_reducible refine wpC_draw ?_)
          | (with_reducible refine wpC_ops ?_)
          | (with_reducible refine wpOps_nil ?_)
          | (first
              | (with_reducible refine wpOps_cons ?_)
              | (with_reducible refine wpDraw_cons ?_)
             first
              | (with_reducible refine wpGuard_none ?_)
              | (refine wpGuard_yes rfl rfl rfl ?_)
              | (refine wpGuard_no rfl rfl rfl ?_)
              | (refine wpGuard_yes rfl rfl (by assumption) ?_)
              | (refine wpGuard_no rfl rfl (by assumption) ?_)
              | (refine wpGuard_skip rfl rfl ?_)
              | skip)
          | (with_reducible refine putS_some ?_)
          | (with_reducible refine putS_none ?_)
          | (with_reducible refine seqQ_normal ?_)
          | (refine ⟨_, rfl, ?_⟩)
          | (refine guardYes (by assumption) ?_)
          | (refine guardYes rfl ?_)
          | (refine guardNo rfl ?_)
          | (refine guardNo (by assumption) ?_)
          | (refine ⟨_, _, rfl, by decide, ?_⟩)
          | (refine ⟨rfl, rfl, rfl, ?_⟩)
          | (refine ⟨rfl, rfl, ?_⟩)
          | (refine ⟨_, _, rfl, _, rfl, ?_⟩)
          | (refine And.intro (Nat.le_of_ble_eq_true rfl) ?_)
          | (refine And.intro (by omega) ?_)
          | (refine ⟨_, _, rfl, rfl, _, rfl, rfl, ?_⟩)
          | (refine And.intro (by kernel_rfl) ?_)
          | (refine ⟨rfl, rfl, rfl, rfl, rfl, ?_⟩)
          | (refine ⟨fun h => ?_, fun h => ?_⟩)
          | fail)
      all_goals refine ⟨[_, _, _, _], ⟨Fz.deep rfl, Fz.deep rfl, Fz.deep rfl, Fz.deep rfl, trivial⟩, ?_⟩
      · rw [decide_eq_true_eq] at h
        refine tpG4 (i64c ?_) (i64c ?_) (i64c ?_) (bbc ?_)
        · omega
        · rfl
        · rw [if_pos (by omega)]; omega
        · rw [decide_eq_true (by omega)]
      · rw [decide_eq_false_iff_not] at h
        refine tpG4 (i64c ?_) (i64c ?_) (i64c ?_) (bbc ?_)
        · omega
        · rfl
        · rw [if_neg (by omega)]
        · rw [decide_eq_false (by omega)]
    · rw [if_neg (show ¬ down ≤ (d : Int) by simpa using h3)]
      clear hq
      have hu : 0 ≤ s.men[d] * t.man ∧ s.men[d] * t.man ≤ 72 := by omega
      generalize s.men[d] * t.man = u at hu ⊢
      repeat' (first
          | (with_reducible refine wpC_skip ?_)
          | (with_reducible refine wpC_seq ?_)
          | (with_reducible refine wpC_block ?_)
          | (with_reducible refine wpC_drawL ?_)
          | (with_reducible refine wpC_opsL ?_)
          | (with_reducible refine wpC_draw ?_)
          | (with_reducible refine wpC_ops ?_)
          | (with_reducible refine wpOps_nil ?_)
          | (first
              | (with_reducible refine wpOps_cons ?_)
              | (with_reducible refine wpDraw_cons ?_)
             first
              | (with_reducible refine wpGuard_none ?_)
              | (refine wpGuard_yes rfl rfl rfl ?_)
              | (refine wpGuard_no rfl rfl rfl ?_)
              | (refine wpGuard_yes rfl rfl (by assumption) ?_)
              | (refine wpGuard_no rfl rfl (by assumption) ?_)
              | (refine wpGuard_skip rfl rfl ?_)
              | skip)
          | (with_reducible refine putS_some ?_)
          | (with_reducible refine putS_none ?_)
          | (with_reducible refine seqQ_normal ?_)
          | (refine ⟨_, rfl, ?_⟩)
          | (refine guardYes (by assumption) ?_)
          | (refine guardYes rfl ?_)
          | (refine guardNo rfl ?_)
          | (refine guardNo (by assumption) ?_)
          | (refine ⟨_, _, rfl, by decide, ?_⟩)
          | (refine ⟨rfl, rfl, rfl, ?_⟩)
          | (refine ⟨rfl, rfl, ?_⟩)
          | (refine ⟨_, _, rfl, _, rfl, ?_⟩)
          | (refine And.intro (Nat.le_of_ble_eq_true rfl) ?_)
          | (refine And.intro (by omega) ?_)
          | (refine ⟨_, _, rfl, rfl, _, rfl, rfl, ?_⟩)
          | (refine And.intro (by kernel_rfl) ?_)
          | (refine ⟨rfl, rfl, rfl, rfl, rfl, ?_⟩)
          | (refine ⟨fun h => ?_, fun h => ?_⟩)
          | fail)
      all_goals refine ⟨[_, _, _, _], ⟨Fz.deep rfl, Fz.deep rfl, Fz.deep rfl, Fz.deep rfl, trivial⟩, ?_⟩
      · rw [decide_eq_true_eq] at h
        refine tpG4 (i64c ?_) (i64c ?_) (i64c ?_) (bbc ?_)
        · omega
        · rfl
        · rw [if_pos (by omega)]; omega
        · rw [decide_eq_true (by omega)]
      · rw [decide_eq_false_iff_not] at h
        refine tpG4 (i64c ?_) (i64c ?_) (i64c ?_) (bbc ?_)
        · omega
        · rfl
        · rw [if_neg (by omega)]
        · rw [decide_eq_false (by omega)]
end Go.Proofs.Ytmkaeohmdcoanaa
open Go Go.RM
namespace Go.Proofs.Ytmkaeohmdcoanaa
set_option maxRecDepth 100000

theorem shortAt_or (men : List Int) (k : Kind) (row : List Int) (t : Truth) (down : Int) : ∀ i : Nat, shortAt men k row t down i = men.length ∨ (0 ≤ shortAt men k row t down i ∧ shortAt men k row t down i < i)
  | 0 => .inl rfl
  | i + 1 => by
    have ih := shortAt_or men k row t down i
    unfold shortAt
    split
    · by_cases h : shortAt men k row t down i ≤ i
      · rw [Int.min_eq_left h]
        omega
      · rw [Int.min_eq_right (by omega)]
        omega
    · omega

theorem rrun_c (one : Bool) (s : Stores) (hg : Good s) (i : Nat) (hi : i < s.kinds.length) (t : Truth) (down : Int) (h : RunOk s.men s.kinds[i] (cargoRow i s.cargos) t) :
    Pu one 62 [.ag (eStores s), I64 i, .ag (eTruth t), I64 down] (.tp [.sl ((List.range (s.men.length + 1)).map fun j => eI (haveAt s.men s.kinds[i] (cargoRow i s.cargos) t down j)) false, I64 (shortAt s.men s.kinds[i] (cargoRow i s.cargos) t down s.men.length)]) := by
  have em : ((s.men.map eI).length : Int) = s.men.length := by simp
  have hday := fun d hd hv hh => day_c true s hg i hi t down h d hd hv hh
  have hhave := h.haveB down
  have h8 := sizes_ok hg.sizes
  generalize s.kinds[i] = k at h hday hhave ⊢
  generalize cargoRow i s.cargos = row at h hday hhave ⊢
  refine PureV.body (fn := Try.f62) rfl rfl rfl rfl ?_
  refine wpC_sound (mu := fun t => Nat.beq t 19 || Nat.beq t 59) ?_
  repeat' (first
      | (with_reducible refine wpC_skip ?_)
      | (with_reducible refine wpC_seq ?_)
      | (with_reducible refine wpC_block ?_)
      | (with_reducible refine wpC_drawL ?_)
      | (with_reducible refine wpC_opsL ?_)
      | (with_reducible refine wpC_draw ?_)
      | (with_reducible refine wpC_ops ?_)
      | (with_reducible refine wpOps_nil ?_)
      | (first
          | (with_reducible refine wpOps_cons ?_)
          | (with_reducible refine wpDraw_cons ?_)
         first
          | (with_reducible refine wpGuard_none ?_)
          | (refine wpGuard_yes rfl rfl rfl ?_)
          | (refine wpGuard_no rfl rfl rfl ?_)
          | (refine wpGuard_yes rfl rfl (by assumption) ?_)
          | (refine wpGuard_no rfl rfl (by assumption) ?_)
          | (refine wpGuard_skip rfl rfl ?_)
          | skip)
      | (with_reducible refine putS_some ?_)
      | (with_reducible refine putS_none ?_)
      | (with_reducible refine seqQ_normal ?_)
      | (refine ⟨_, rfl, ?_⟩)
      | (refine guardYes (by assumption) ?_)
      | (refine guardYes rfl ?_)
      | (refine guardNo rfl ?_)
      | (refine guardNo (by assumption) ?_)
      | (refine ⟨_, _, rfl, by decide, ?_⟩)
      | (refine ⟨rfl, rfl, rfl, ?_⟩)
      | (refine ⟨rfl, rfl, ?_⟩)
      | (refine ⟨_, _, rfl, _, rfl, ?_⟩)
      | (refine And.intro (Nat.le_of_ble_eq_true rfl) ?_)
      | (refine And.intro (by omega) ?_)
      | (refine ⟨_, _, rfl, rfl, _, rfl, rfl, ?_⟩)
      | (refine And.intro (by kernel_rfl) ?_)
      | (refine ⟨rfl, rfl, rfl, rfl, rfl, ?_⟩)
      | fail)
  refine SemC.weaker (Weaker.to (l := [(1, I64 i), (3, I64 down), (4, .pt (eStores s) 0), (6, .pt (eTruth t) 0), (10, .osl 0 0 0 1 1), (11, I64 s.men.length), (12, I64 ((0 : Nat) : Int))]) (hp := [runB s.men k row t down 0]) 1 rfl ⟨rfl, rfl, rfl, rfl, rfl, i64c em, rfl, trivial⟩ (Nat.zero_le _) rfl rfl) ?_
  refine SemC.loop (fun j : Nat => j ≤ s.men.length) (fun j => ⟨mkFr [(1, I64 i), (3, I64 down), (4, .pt (eStores s) 0), (6, .pt (eTruth t) 0), (10, .osl 0 j 0 (j + 1) (capF j)), (11, I64 (shortAt s.men k row t down j)), (12, I64 (j : Int))], [runB s.men k row t down j], Amb.none, false, 0⟩) (fun j => s.men.length - j) ?_ 0 (Nat.zero_le _)
  intro j hj
  refine wpC_sound (mu := fun t => Nat.beq t 19 || Nat.beq t 59) ?_
  repeat' (first
      | (with_reducible refine wpC_skip ?_)
      | (with_reducible refine wpC_seq ?_)
      | (with_reducible refine wpC_block ?_)
      | (with_reducible refine wpC_drawL ?_)
      | (with_reducible refine wpC_opsL ?_)
      | (with_reducible refine wpC_draw ?_)
      | (with_reducible refine wpC_ops ?_)
      | (with_reducible refine wpOps_nil ?_)
      | (first
          | (with_reducible refine wpOps_cons ?_)
          | (with_reducible refine wpDraw_cons ?_)
         first
          | (with_reducible refine wpGuard_none ?_)
          | (refine wpGuard_yes rfl rfl rfl ?_)
          | (refine wpGuard_no rfl rfl rfl ?_)
          | (refine wpGuard_yes rfl rfl (by assumption) ?_)
          | (refine wpGuard_no rfl rfl (by assumption) ?_)
          | (refine wpGuard_skip rfl rfl ?_)
          | skip)
      | (with_reducible refine putS_some ?_)
      | (with_reducible refine putS_none ?_)
      | (with_reducible refine seqQ_normal ?_)
      | (refine ⟨_, rfl, ?_⟩)
      | (refine guardYes (by assumption) ?_)
      | (refine guardYes rfl ?_)
      | (refine guardNo rfl ?_)
      | (refine guardNo (by assumption) ?_)
      | (refine ⟨_, _, rfl, by decide, ?_⟩)
      | (refine ⟨rfl, rfl, rfl, ?_⟩)
      | (refine ⟨rfl, rfl, ?_⟩)
      | (refine ⟨_, _, rfl, _, rfl, ?_⟩)
      | (refine And.intro (Nat.le_of_ble_eq_true rfl) ?_)
      | (refine And.intro (by omega) ?_)
      | (refine ⟨_, _, rfl, rfl, _, rfl, rfl, ?_⟩)
      | (refine And.intro (by kernel_rfl) ?_)
      | (refine ⟨rfl, rfl, rfl, rfl, rfl, ?_⟩)
      | fail)
  refine ⟨fun h2 => ?_, fun h2 => ?_⟩
  · have hlt : j < s.men.length := by simpa only [em, decide_eq_true_eq, Int.ofNat_lt] using h2
    have b4 := hhave j hj
    have hdj := hday j hlt _ b4
    have hhv : haveAt s.men k row t down (j + 1) = max 0 (rawAt s.men k row t down j (haveAt s.men k row t down j)) := rfl
    have hsh : shortAt s.men k row t down (j + 1) = if rawAt s.men k row t down j (haveAt s.men k row t down j) < 0 then min (shortAt s.men k row t down j) j else shortAt s.men k row t down j := rfl
    have hor := shortAt_or s.men k row t down j
    have hg : ((List.range (j + 1)).map fun i => I64 (haveAt s.men k row t down i))[0 + (j : Int).toNat * 1]? = some (I64 (haveAt s.men k row t down j)) := by
      rw [show 0 + (j : Int).toNat * 1 = j from by omega, List.getElem?_map, List.getElem?_range (by omega)]
      rfl
    generalize haveAt s.men k row t down j = hv at hdj hhv hsh hg b4
    repeat' (first
        | (with_reducible refine wpC_skip ?_)
        | (with_reducible refine wpC_seq ?_)
        | (with_reducible refine wpC_block ?_)
        | (with_reducible refine wpC_drawL ?_)
        | (with_reducible refine wpC_opsL ?_)
        | (with_reducible refine wpC_draw ?_)
        | (with_reducible refine wpC_ops ?_)
        | (with_reducible refine wpOps_nil ?_)
        | (first
            | (with_reducible refine wpOps_cons ?_)
            | (with_reducible refine wpDraw_cons ?_)
           first
            | (with_reducible refine wpGuard_none ?_)
            | (refine wpGuard_yes rfl rfl rfl ?_)
            | (refine wpGuard_no rfl rfl rfl ?_)
            | (refine wpGuard_yes rfl rfl (by assumption) ?_)
            | (refine wpGuard_no rfl rfl (by assumption) ?_)
            | (refine wpGuard_skip rfl rfl ?_)
            | skip)
        | (with_reducible refine putS_some ?_)
        | (with_reducible refine putS_none ?_)
        | (with_reducible refine seqQ_normal ?_)
        | (refine ⟨_, rfl, ?_⟩)
        | (refine guardYes (by assumption) ?_)
        | (refine guardYes rfl ?_)
        | (refine guardNo rfl ?_)
        | (refine guardNo (by assumption) ?_)
        | (refine ⟨_, _, rfl, by decide, ?_⟩)
        | (refine ⟨rfl, rfl, rfl, ?_⟩)
        | (refine ⟨rfl, rfl, ?_⟩)
        | (refine ⟨_, _, rfl, _, rfl, ?_⟩)
        | (refine And.intro (Nat.le_of_ble_eq_true rfl) ?_)
        | (refine And.intro (by omega) ?_)
        | (refine ⟨_, _, rfl, rfl, _, rfl, rfl, ?_⟩)
        | (refine And.intro (by kernel_rfl) ?_)
        | (refine ⟨rfl, rfl, rfl, rfl, rfl, ?_⟩)
        | (refine ⟨_, _, rfl, _, hg, ?_⟩)
        | fail)
    refine ⟨_, hdj, ?_⟩
    generalize rawAt s.men k row t down j hv = raw at hhv hsh ⊢
    repeat' (first
        | (with_reducible refine wpC_skip ?_)
        | (with_reducible refine wpC_seq ?_)
        | (with_reducible refine wpC_block ?_)
        | (with_reducible refine wpC_drawL ?_)
        | (with_reducible refine wpC_opsL ?_)
        | (with_reducible refine wpC_draw ?_)
        | (with_reducible refine wpC_ops ?_)
        | (with_reducible refine wpOps_nil ?_)
        | (first
            | (with_reducible refine wpOps_cons ?_)
            | (with_reducible refine wpDraw_cons ?_)
           first
            | (with_reducible refine wpGuard_none ?_)
            | (refine wpGuard_yes rfl rfl rfl ?_)
            | (refine wpGuard_no rfl rfl rfl ?_)
            | (refine wpGuard_yes rfl rfl (by assumption) ?_)
            | (refine wpGuard_no rfl rfl (by assumption) ?_)
            | (refine wpGuard_skip rfl rfl ?_)
            | skip)
        | (with_reducible refine putS_some ?_)
        | (with_reducible refine putS_none ?_)
        | (with_reducible refine seqQ_normal ?_)
        | (refine ⟨_, rfl, ?_⟩)
        | (refine guardYes (by assumption) ?_)
        | (refine guardYes rfl ?_)
        | (refine guardNo rfl ?_)
        | (refine guardNo (by assumption) ?_)
        | (refine ⟨_, _, rfl, by decide, ?_⟩)
        | (refine ⟨rfl, rfl, rfl, ?_⟩)
        | (refine ⟨rfl, rfl, ?_⟩)
        | (refine ⟨_, _, rfl, _, rfl, ?_⟩)
        | (refine And.intro (Nat.le_of_ble_eq_true rfl) ?_)
        | (refine And.intro (by omega) ?_)
        | (refine ⟨_, _, rfl, rfl, _, rfl, rfl, ?_⟩)
        | (refine And.intro (by kernel_rfl) ?_)
        | (refine ⟨rfl, rfl, rfl, rfl, rfl, ?_⟩)
        | (refine ⟨fun h => ?_, fun h => ?_⟩)
        | fail)
    all_goals refine ⟨[eI _], ⟨fun el hel => by rw [List.mem_singleton.1 hel]; rfl, rfl⟩, rfl, _, rfl, by simp, capF_ok j, And.intro (by dsimp only [List.length]; have := h8.1; omega) (by dsimp only [List.length]; have := h8.1; omega), fun hn => absurd hn (by simp), fun _ => ?_⟩
    · repeat' (first
          | (with_reducible refine wpC_skip ?_)
          | (with_reducible refine wpC_seq ?_)
          | (with_reducible refine wpC_block ?_)
          | (with_reducible refine wpC_drawL ?_)
          | (with_reducible refine wpC_opsL ?_)
          | (with_reducible refine wpC_draw ?_)
          | (with_reducible refine wpC_ops ?_)
          | (with_reducible refine wpOps_nil ?_)
          | (first
              | (with_reducible refine wpOps_cons ?_)
              | (with_reducible refine wpDraw_cons ?_)
             first
              | (with_reducible refine wpGuard_none ?_)
              | (refine wpGuard_yes rfl rfl rfl ?_)
              | (refine wpGuard_no rfl rfl rfl ?_)
              | (refine wpGuard_yes rfl rfl (by assumption) ?_)
              | (refine wpGuard_no rfl rfl (by assumption) ?_)
              | (refine wpGuard_skip rfl rfl ?_)
              | skip)
          | (with_reducible refine putS_some ?_)
          | (with_reducible refine putS_none ?_)
          | (with_reducible refine seqQ_normal ?_)
          | (refine ⟨_, rfl, ?_⟩)
          | (refine guardYes (by assumption) ?_)
          | (refine guardYes rfl ?_)
          | (refine guardNo rfl ?_)
          | (refine guardNo (by assumption) ?_)
          | (refine ⟨_, _, rfl, by decide, ?_⟩)
          | (refine ⟨rfl, rfl, rfl, ?_⟩)
          | (refine ⟨rfl, rfl, ?_⟩)
          | (refine ⟨_, _, rfl, _, rfl, ?_⟩)
          | (refine And.intro (Nat.le_of_ble_eq_true rfl) ?_)
          | (refine And.intro (by omega) ?_)
          | (refine ⟨_, _, rfl, rfl, _, rfl, rfl, ?_⟩)
          | (refine And.intro (by kernel_rfl) ?_)
          | (refine ⟨rfl, rfl, rfl, rfl, rfl, ?_⟩)
          | fail)
      have h1 : raw < 0 := by simpa using ‹decide (raw < 0) = true›
      have h2 : shortAt s.men k row t down j = s.men.length := by simp_all
      rw [if_pos h1, h2, Int.min_eq_right (by omega)] at hsh
      refine ⟨j + 1, hlt, (by dsimp only; omega), Weaker.to 1 (runB_snoc hhv) ⟨rfl, rfl, rfl, rfl, rfl, i64c hsh.symm, i64c (by simp), trivial⟩ (Nat.zero_le _) rfl (runB_inb _ _ _ _ _ _)⟩
    · repeat' (first
          | (with_reducible refine wpC_skip ?_)
          | (with_reducible refine wpC_seq ?_)
          | (with_reducible refine wpC_block ?_)
          | (with_reducible refine wpC_drawL ?_)
          | (with_reducible refine wpC_opsL ?_)
          | (with_reducible refine wpC_draw ?_)
          | (with_reducible refine wpC_ops ?_)
          | (with_reducible refine wpOps_nil ?_)
          | (first
              | (with_reducible refine wpOps_cons ?_)
              | (with_reducible refine wpDraw_cons ?_)
             first
              | (with_reducible refine wpGuard_none ?_)
              | (refine wpGuard_yes rfl rfl rfl ?_)
              | (refine wpGuard_no rfl rfl rfl ?_)
              | (refine wpGuard_yes rfl rfl (by assumption) ?_)
              | (refine wpGuard_no rfl rfl (by assumption) ?_)
              | (refine wpGuard_skip rfl rfl ?_)
              | skip)
          | (with_reducible refine putS_some ?_)
          | (with_reducible refine putS_none ?_)
          | (with_reducible refine seqQ_normal ?_)
          | (refine ⟨_, rfl, ?_⟩)
          | (refine guardYes (by assumption) ?_)
          | (refine guardYes rfl ?_)
          | (refine guardNo rfl ?_)
          | (refine guardNo (by assumption) ?_)
          | (refine ⟨_, _, rfl, by decide, ?_⟩)
          | (refine ⟨rfl, rfl, rfl, ?_⟩)
          | (refine ⟨rfl, rfl, ?_⟩)
          | (refine ⟨_, _, rfl, _, rfl, ?_⟩)
          | (refine And.intro (Nat.le_of_ble_eq_true rfl) ?_)
          | (refine And.intro (by omega) ?_)
          | (refine ⟨_, _, rfl, rfl, _, rfl, rfl, ?_⟩)
          | (refine And.intro (by kernel_rfl) ?_)
          | (refine ⟨rfl, rfl, rfl, rfl, rfl, ?_⟩)
          | fail)
      have h1 : raw < 0 := by simpa using ‹decide (raw < 0) = true›
      have h2 : ¬ shortAt s.men k row t down j = s.men.length := by simp_all
      rw [if_pos h1, Int.min_eq_left (by omega)] at hsh
      refine ⟨j + 1, hlt, (by dsimp only; omega), Weaker.to 1 (runB_snoc hhv) ⟨rfl, rfl, rfl, rfl, rfl, i64c hsh.symm, i64c (by simp), trivial⟩ (Nat.zero_le _) rfl (runB_inb _ _ _ _ _ _)⟩
    · repeat' (first
          | (with_reducible refine wpC_skip ?_)
          | (with_reducible refine wpC_seq ?_)
          | (with_reducible refine wpC_block ?_)
          | (with_reducible refine wpC_drawL ?_)
          | (with_reducible refine wpC_opsL ?_)
          | (with_reducible refine wpC_draw ?_)
          | (with_reducible refine wpC_ops ?_)
          | (with_reducible refine wpOps_nil ?_)
          | (first
              | (with_reducible refine wpOps_cons ?_)
              | (with_reducible refine wpDraw_cons ?_)
             first
              | (with_reducible refine wpGuard_none ?_)
              | (refine wpGuard_yes rfl rfl rfl ?_)
              | (refine wpGuard_no rfl rfl rfl ?_)
              | (refine wpGuard_yes rfl rfl (by assumption) ?_)
              | (refine wpGuard_no rfl rfl (by assumption) ?_)
              | (refine wpGuard_skip rfl rfl ?_)
              | skip)
          | (with_reducible refine putS_some ?_)
          | (with_reducible refine putS_none ?_)
          | (with_reducible refine seqQ_normal ?_)
          | (refine ⟨_, rfl, ?_⟩)
          | (refine guardYes (by assumption) ?_)
          | (refine guardYes rfl ?_)
          | (refine guardNo rfl ?_)
          | (refine guardNo (by assumption) ?_)
          | (refine ⟨_, _, rfl, by decide, ?_⟩)
          | (refine ⟨rfl, rfl, rfl, ?_⟩)
          | (refine ⟨rfl, rfl, ?_⟩)
          | (refine ⟨_, _, rfl, _, rfl, ?_⟩)
          | (refine And.intro (Nat.le_of_ble_eq_true rfl) ?_)
          | (refine And.intro (by omega) ?_)
          | (refine ⟨_, _, rfl, rfl, _, rfl, rfl, ?_⟩)
          | (refine And.intro (by kernel_rfl) ?_)
          | (refine ⟨rfl, rfl, rfl, rfl, rfl, ?_⟩)
          | fail)
      have h1 : ¬ raw < 0 := by simpa using h
      rw [if_neg h1] at hsh
      refine ⟨j + 1, hlt, (by dsimp only; omega), Weaker.to 1 (runB_snoc hhv) ⟨rfl, rfl, rfl, rfl, rfl, i64c hsh.symm, i64c (by simp), trivial⟩ (Nat.zero_le _) rfl (runB_inb _ _ _ _ _ _)⟩
  · have hi : j = s.men.length := by rw [em, decide_eq_false_iff_not] at h2; omega
    subst hi
    repeat' (first
        | (with_reducible refine wpC_skip ?_)
        | (with_reducible refine wpC_seq ?_)
        | (with_reducible refine wpC_block ?_)
        | (with_reducible refine wpC_drawL ?_)
        | (with_reducible refine wpC_opsL ?_)
        | (with_reducible refine wpC_draw ?_)
        | (with_reducible refine wpC_ops ?_)
        | (with_reducible refine wpOps_nil ?_)
        | (first
            | (with_reducible refine wpOps_cons ?_)
            | (with_reducible refine wpDraw_cons ?_)
           first
            | (with_reducible refine wpGuard_none ?_)
            | (refine wpGuard_yes rfl rfl rfl ?_)
            | (refine wpGuard_no rfl rfl rfl ?_)
            | (refine wpGuard_yes rfl rfl (by assumption) ?_)
            | (refine wpGuard_no rfl rfl (by assumption) ?_)
            | (refine wpGuard_skip rfl rfl ?_)
            | skip)
        | (with_reducible refine putS_some ?_)
        | (with_reducible refine putS_none ?_)
        | (with_reducible refine seqQ_normal ?_)
        | (refine ⟨_, rfl, ?_⟩)
        | (refine guardYes (by assumption) ?_)
        | (refine guardYes rfl ?_)
        | (refine guardNo rfl ?_)
        | (refine guardNo (by assumption) ?_)
        | (refine ⟨_, _, rfl, by decide, ?_⟩)
        | (refine ⟨rfl, rfl, rfl, ?_⟩)
        | (refine ⟨rfl, rfl, ?_⟩)
        | (refine ⟨_, _, rfl, _, rfl, ?_⟩)
        | (refine And.intro (Nat.le_of_ble_eq_true rfl) ?_)
        | (refine And.intro (by omega) ?_)
        | (refine ⟨_, _, rfl, rfl, _, rfl, rfl, ?_⟩)
        | (refine And.intro (by kernel_rfl) ?_)
        | (refine ⟨rfl, rfl, rfl, rfl, rfl, ?_⟩)
        | fail)
    exact ⟨[_, _], ⟨run_fz _ _ _ _ _ _, Fz.deep rfl, trivial⟩, rfl⟩
end Go.Proofs.Ytmkaeohmdcoanaa
open Go Go.RM
namespace Go.Proofs.Ytmkaeohmdcoanaa
set_option maxRecDepth 100000

theorem ints_c (one : Bool) (a b : List Int) (f g : Bool) (_ : a.length ≤ maxLen) (hb : b.length ≤ maxLen) : Pu one 21 [.sl (a.map eI) f, .sl (b.map eI) g] (BB (decide (a = b))) := by
  unfold maxLen at hb
  have ea : ((a.map eI).length : Int) = a.length := by simp
  have eb : ((b.map eI).length : Int) = b.length := by simp
  refine PureV.body (fn := Try.f21) rfl rfl rfl rfl ?_
  refine wpC_sound (mu := fun _ => false) ?_
  repeat' (first |with_reducible (first|refine RM.c1 ?_|refine RM.c2 ?_|refine RM.c3 ?_|refine RM.c4 ?_|refine RM.c5 ?_|refine RM.c6 ?_|refine RM.c7 ?_|refine RM.c8 ?_|refine RM.c9 ?_|refine RM.d1 ?_|refine RM.d2 ?_|refine RM.d3 ?_|refine RM.d4 ?_|refine RM.d7 ?_|refine RM.d8 ?_|refine RM.d9 ?_|refine RM.o1 ?_|refine RM.o2 ?_|refine RM.o3 ?_|refine RM.o4 ?_|refine RM.o5 ?_|refine RM.o6 ?_|refine RM.o7 ?_|refine RM.o9 ?_|refine RM.p1 ?_|refine RM.p2 ?_|refine RM.p3 ?_|refine RM.p4 ?_|refine RM.p5 ?_|refine RM.p6 ?_|refine RM.p7 ?_|refine RM.p8 ?_|refine RM.n1 ?_) |((with_reducible show force _ _);first|refine RM.f1 rfl ?_|refine RM.f2 rfl ?_|refine RM.f3 rfl ?_|refine RM.f4 rfl ?_|refine RM.f5 rfl ?_|refine RM.f6 rfl ?_|refine RM.f7 rfl ?_|refine RM.f8 rfl ?_|refine RM.f9 rfl ?_|refine RM.g1 rfl ?_|refine RM.g2 rfl ?_) |((with_reducible show wpOne _ _ _ _ _ _ _ _ _ _ _ _);refine RM.o8 rfl ?_) |((with_reducible show wpDOne _ _ _ _ _ _ _ _ _ _);refine RM.p9 rfl ?_) |((with_reducible show wpGuard _ _ _ _ _);first|refine wpGuard_yes rfl rfl rfl ?_|refine wpGuard_no rfl rfl rfl ?_|refine wpGuard_skip rfl rfl ?_|refine wpGuard_yes rfl rfl (by assumption) ?_|refine wpGuard_no rfl rfl (by assumption) ?_) |((with_reducible show wpC _ _ _ _ (.cond _ _ _) _ _);first|refine RM.e2 rfl rfl ?_|refine RM.e3 rfl rfl ?_|refine RM.e2 rfl (by assumption) ?_|refine RM.e3 rfl (by assumption) ?_) |((with_reducible show wpPick _ _ _ _ _);refine RM.k1 rfl ?_) |((with_reducible show wpPickB _ _ _ _ _);first|refine RM.k2 rfl ?_|refine RM.k3 rfl ?_|refine RM.k2 (by assumption) ?_|refine RM.k3 (by assumption) ?_|refine RM.k4 rfl rfl ?_) |((with_reducible show wpBin _ _ _ _ _ _ _ _ _);first|refine RM.b4 rfl rfl ?_|refine RM.b5 rfl rfl ?_|refine RM.b6 rfl rfl ?_|refine RM.b7 rfl rfl ?_|refine RM.b8 rfl rfl ?_|refine RM.b9 rfl rfl ?_|refine RM.b1 rfl rfl (by omega) ?_|refine RM.b2 rfl rfl (by omega) ?_|refine RM.b3 rfl rfl (by omega) ?_|refine RM.r1 rfl rfl (by omega) ?_|refine RM.r2 rfl rfl (by omega) ?_) |((with_reducible show wpLen _ _ _ _ _);first|refine RM.l1 rfl ?_|refine RM.l2 rfl ?_) |((with_reducible show wpNil _ _ _);first|refine RM.l3 rfl ?_|refine RM.l4 rfl ?_) |((with_reducible show blockK _ _ _ _);first|refine RM.d5 rfl ?_|refine RM.d6 rfl ?_) |((with_reducible show RM.wpOp _ _ _ _ _ _);first|refine RM.n3 rfl ?_|refine RM.n4 rfl rfl ?_|refine RM.n5 rfl rfl ?_) |(refine ⟨_, rfl, ?_⟩) |(refine ⟨_, _, rfl, by decide, ?_⟩) |(refine ⟨rfl, rfl, rfl, ?_⟩) |(refine ⟨rfl, rfl, ?_⟩) |(refine ⟨_, _, rfl, _, rfl, ?_⟩) |(refine And.intro (Nat.le_of_ble_eq_true rfl) ?_) |(refine And.intro (by omega) ?_) |(refine ⟨_, _, rfl, rfl, _, rfl, rfl, ?_⟩) |(refine And.intro (by kernel_rfl) ?_) |(refine ⟨rfl, rfl, rfl, rfl, rfl, ?_⟩) |(refine ⟨_, _, rfl, rfl, rfl, rfl, Nat.le_of_ble_eq_true rfl, ?_⟩) |(refine ⟨_, _, rfl, Nat.le_of_ble_eq_true rfl, ?_⟩) |fail)
  refine ⟨fun h => ?_, fun h => ?_⟩
  · repeat' (first |with_reducible (first|refine RM.c1 ?_|refine RM.c2 ?_|refine RM.c3 ?_|refine RM.c4 ?_|refine RM.c5 ?_|refine RM.c6 ?_|refine RM.c7 ?_|refine RM.c8 ?_|refine RM.c9 ?_|refine RM.d1 ?_|refine RM.d2 ?_|refine RM.d3 ?_|refine RM.d4 ?_|refine RM.d7 ?_|refine RM.d8 ?_|refine RM.d9 ?_|refine RM.o1 ?_|refine RM.o2 ?_|refine RM.o3 ?_|refine RM.o4 ?_|refine RM.o5 ?_|refine RM.o6 ?_|refine RM.o7 ?_|refine RM.o9 ?_|refine RM.p1 ?_|refine RM.p2 ?_|refine RM.p3 ?_|refine RM.p4 ?_|refine RM.p5 ?_|refine RM.p6 ?_|refine RM.p7 ?_|refine RM.p8 ?_|refine RM.n1 ?_) |((with_reducible show force _ _);first|refine RM.f1 rfl ?_|refine RM.f2 rfl ?_|refine RM.f3 rfl ?_|refine RM.f4 rfl ?_|refine RM.f5 rfl ?_|refine RM.f6 rfl ?_|refine RM.f7 rfl ?_|refine RM.f8 rfl ?_|refine RM.f9 rfl ?_|refine RM.g1 rfl ?_|refine RM.g2 rfl ?_) |((with_reducible show wpOne _ _ _ _ _ _ _ _ _ _ _ _);refine RM.o8 rfl ?_) |((with_reducible show wpDOne _ _ _ _ _ _ _ _ _ _);refine RM.p9 rfl ?_) |((with_reducible show wpGuard _ _ _ _ _);first|refine wpGuard_yes rfl rfl rfl ?_|refine wpGuard_no rfl rfl rfl ?_|refine wpGuard_skip rfl rfl ?_|refine wpGuard_yes rfl rfl (by assumption) ?_|refine wpGuard_no rfl rfl (by assumption) ?_) |((with_reducible show wpC _ _ _ _ (.cond _ _ _) _ _);first|refine RM.e2 rfl rfl ?_|refine RM.e3 rfl rfl ?_|refine RM.e2 rfl (by assumption) ?_|refine RM.e3 rfl (by assumption) ?_) |((with_reducible show wpPick _ _ _ _ _);refine RM.k1 rfl ?_) |((with_reducible show wpPickB _ _ _ _ _);first|refine RM.k2 rfl ?_|refine RM.k3 rfl ?_|refine RM.k2 (by assumption) ?_|refine RM.k3 (by assumption) ?_|refine RM.k4 rfl rfl ?_) |((with_reducible show wpBin _ _ _ _ _ _ _ _ _);first|refine RM.b4 rfl rfl ?_|refine RM.b5 rfl rfl ?_|refine RM.b6 rfl rfl ?_|refine RM.b7 rfl rfl ?_|refine RM.b8 rfl rfl ?_|refine RM.b9 rfl rfl ?_|refine RM.b1 rfl rfl (by omega) ?_|refine RM.b2 rfl rfl (by omega) ?_|refine RM.b3 rfl rfl (by omega) ?_|refine RM.r1 rfl rfl (by omega) ?_|refine RM.r2 rfl rfl (by omega) ?_) |((with_reducible show wpLen _ _ _ _ _);first|refine RM.l1 rfl ?_|refine RM.l2 rfl ?_) |((with_reducible show wpNil _ _ _);first|refine RM.l3 rfl ?_|refine RM.l4 rfl ?_) |((with_reducible show blockK _ _ _ _);first|refine RM.d5 rfl ?_|refine RM.d6 rfl ?_) |((with_reducible show RM.wpOp _ _ _ _ _ _);first|refine RM.n3 rfl ?_|refine RM.n4 rfl rfl ?_|refine RM.n5 rfl rfl ?_) |(refine ⟨_, rfl, ?_⟩) |(refine ⟨_, _, rfl, by decide, ?_⟩) |(refine ⟨rfl, rfl, rfl, ?_⟩) |(refine ⟨rfl, rfl, ?_⟩) |(refine ⟨_, _, rfl, _, rfl, ?_⟩) |(refine And.intro (Nat.le_of_ble_eq_true rfl) ?_) |(refine And.intro (by omega) ?_) |(refine ⟨_, _, rfl, rfl, _, rfl, rfl, ?_⟩) |(refine And.intro (by kernel_rfl) ?_) |(refine ⟨rfl, rfl, rfl, rfl, rfl, ?_⟩) |(refine ⟨_, _, rfl, rfl, rfl, rfl, Nat.le_of_ble_eq_true rfl, ?_⟩) |(refine ⟨_, _, rfl, Nat.le_of_ble_eq_true rfl, ?_⟩) |fail)
    refine ⟨[_], ⟨Fz.deep rfl, trivial⟩, bbc ?_⟩
    rw [ea, eb] at h
    symm
    rw [decide_eq_false_iff_not]
    rintro rfl
    simp at h
  · have hl : a.length = b.length := Int.ofNat_inj.1 (by rw [ea, eb] at h; simpa using h)
    repeat' (first |with_reducible (first|refine RM.c1 ?_|refine RM.c2 ?_|refine RM.c3 ?_|refine RM.c4 ?_|refine RM.c5 ?_|refine RM.c6 ?_|refine RM.c7 ?_|refine RM.c8 ?_|refine RM.c9 ?_|refine RM.d1 ?_|refine RM.d2 ?_|refine RM.d3 ?_|refine RM.d4 ?_|refine RM.d7 ?_|refine RM.d8 ?_|refine RM.d9 ?_|refine RM.o1 ?_|refine RM.o2 ?_|refine RM.o3 ?_|refine RM.o4 ?_|refine RM.o5 ?_|refine RM.o6 ?_|refine RM.o7 ?_|refine RM.o9 ?_|refine RM.p1 ?_|refine RM.p2 ?_|refine RM.p3 ?_|refine RM.p4 ?_|refine RM.p5 ?_|refine RM.p6 ?_|refine RM.p7 ?_|refine RM.p8 ?_|refine RM.n1 ?_) |((with_reducible show force _ _);first|refine RM.f1 rfl ?_|refine RM.f2 rfl ?_|refine RM.f3 rfl ?_|refine RM.f4 rfl ?_|refine RM.f5 rfl ?_|refine RM.f6 rfl ?_|refine RM.f7 rfl ?_|refine RM.f8 rfl ?_|refine RM.f9 rfl ?_|refine RM.g1 rfl ?_|refine RM.g2 rfl ?_) |((with_reducible show wpOne _ _ _ _ _ _ _ _ _ _ _ _);refine RM.o8 rfl ?_) |((with_reducible show wpDOne _ _ _ _ _ _ _ _ _ _);refine RM.p9 rfl ?_) |((with_reducible show wpGuard _ _ _ _ _);first|refine wpGuard_yes rfl rfl rfl ?_|refine wpGuard_no rfl rfl rfl ?_|refine wpGuard_skip rfl rfl ?_|refine wpGuard_yes rfl rfl (by assumption) ?_|refine wpGuard_no rfl rfl (by assumption) ?_) |((with_reducible show wpC _ _ _ _ (.cond _ _ _) _ _);first|refine RM.e2 rfl rfl ?_|refine RM.e3 rfl rfl ?_|refine RM.e2 rfl (by assumption) ?_|refine RM.e3 rfl (by assumption) ?_) |((with_reducible show wpPick _ _ _ _ _);refine RM.k1 rfl ?_) |((with_reducible show wpPickB _ _ _ _ _);first|refine RM.k2 rfl ?_|refine RM.k3 rfl ?_|refine RM.k2 (by assumption) ?_|refine RM.k3 (by assumption) ?_|refine RM.k4 rfl rfl ?_) |((with_reducible show wpBin _ _ _ _ _ _ _ _ _);first|refine RM.b4 rfl rfl ?_|refine RM.b5 rfl rfl ?_|refine RM.b6 rfl rfl ?_|refine RM.b7 rfl rfl ?_|refine RM.b8 rfl rfl ?_|refine RM.b9 rfl rfl ?_|refine RM.b1 rfl rfl (by omega) ?_|refine RM.b2 rfl rfl (by omega) ?_|refine RM.b3 rfl rfl (by omega) ?_|refine RM.r1 rfl rfl (by omega) ?_|refine RM.r2 rfl rfl (by omega) ?_) |((with_reducible show wpLen _ _ _ _ _);first|refine RM.l1 rfl ?_|refine RM.l2 rfl ?_) |((with_reducible show wpNil _ _ _);first|refine RM.l3 rfl ?_|refine RM.l4 rfl ?_) |((with_reducible show blockK _ _ _ _);first|refine RM.d5 rfl ?_|refine RM.d6 rfl ?_) |((with_reducible show RM.wpOp _ _ _ _ _ _);first|refine RM.n3 rfl ?_|refine RM.n4 rfl rfl ?_|refine RM.n5 rfl rfl ?_) |(refine ⟨_, rfl, ?_⟩) |(refine ⟨_, _, rfl, by decide, ?_⟩) |(refine ⟨rfl, rfl, rfl, ?_⟩) |(refine ⟨rfl, rfl, ?_⟩) |(refine ⟨_, _, rfl, _, rfl, ?_⟩) |(refine And.intro (Nat.le_of_ble_eq_true rfl) ?_) |(refine And.intro (by omega) ?_) |(refine ⟨_, _, rfl, rfl, _, rfl, rfl, ?_⟩) |(refine And.intro (by kernel_rfl) ?_) |(refine ⟨rfl, rfl, rfl, rfl, rfl, ?_⟩) |(refine ⟨_, _, rfl, rfl, rfl, rfl, Nat.le_of_ble_eq_true rfl, ?_⟩) |(refine ⟨_, _, rfl, Nat.le_of_ble_eq_true rfl, ?_⟩) |fail)
    refine SemC.weaker (Weaker.to (l := [(0, .sl (a.map eI) f), (1, .sl (b.map eI) g), (5, I64 ((0 : Nat) : Int))]) 0 rfl ⟨rfl, rfl, rfl, trivial⟩ (Nat.le_refl _) rfl rfl) ?_
    refine SemC.loop (fun k : Nat => k ≤ a.length ∧ ∀ i (h : i < a.length), i < k → a[i] = b[i]) (fun k => ⟨mkFr [(0, .sl (a.map eI) f), (1, .sl (b.map eI) g), (5, I64 (k : Int))], [], Amb.none, false, 0⟩) (fun k => a.length - k) ?_ 0 ⟨Nat.zero_le _, fun i _ hi => absurd hi (by omega)⟩
    intro k ⟨hk, hprev⟩
    refine wpC_sound (mu := fun _ => false) ?_
    repeat' (first |with_reducible (first|refine RM.c1 ?_|refine RM.c2 ?_|refine RM.c3 ?_|refine RM.c4 ?_|refine RM.c5 ?_|refine RM.c6 ?_|refine RM.c7 ?_|refine RM.c8 ?_|refine RM.c9 ?_|refine RM.d1 ?_|refine RM.d2 ?_|refine RM.d3 ?_|refine RM.d4 ?_|refine RM.d7 ?_|refine RM.d8 ?_|refine RM.d9 ?_|refine RM.o1 ?_|refine RM.o2 ?_|refine RM.o3 ?_|refine RM.o4 ?_|refine RM.o5 ?_|refine RM.o6 ?_|refine RM.o7 ?_|refine RM.o9 ?_|refine RM.p1 ?_|refine RM.p2 ?_|refine RM.p3 ?_|refine RM.p4 ?_|refine RM.p5 ?_|refine RM.p6 ?_|refine RM.p7 ?_|refine RM.p8 ?_|refine RM.n1 ?_) |((with_reducible show force _ _);first|refine RM.f1 rfl ?_|refine RM.f2 rfl ?_|refine RM.f3 rfl ?_|refine RM.f4 rfl ?_|refine RM.f5 rfl ?_|refine RM.f6 rfl ?_|refine RM.f7 rfl ?_|refine RM.f8 rfl ?_|refine RM.f9 rfl ?_|refine RM.g1 rfl ?_|refine RM.g2 rfl ?_) |((with_reducible show wpOne _ _ _ _ _ _ _ _ _ _ _ _);refine RM.o8 rfl ?_) |((with_reducible show wpDOne _ _ _ _ _ _ _ _ _ _);refine RM.p9 rfl ?_) |((with_reducible show wpGuard _ _ _ _ _);first|refine wpGuard_yes rfl rfl rfl ?_|refine wpGuard_no rfl rfl rfl ?_|refine wpGuard_skip rfl rfl ?_|refine wpGuard_yes rfl rfl (by assumption) ?_|refine wpGuard_no rfl rfl (by assumption) ?_) |((with_reducible show wpC _ _ _ _ (.cond _ _ _) _ _);first|refine RM.e2 rfl rfl ?_|refine RM.e3 rfl rfl ?_|refine RM.e2 rfl (by assumption) ?_|refine RM.e3 rfl (by assumption) ?_) |((with_reducible show wpPick _ _ _ _ _);refine RM.k1 rfl ?_) |((with_reducible show wpPickB _ _ _ _ _);first|refine RM.k2 rfl ?_|refine RM.k3 rfl ?_|refine RM.k2 (by assumption) ?_|refine RM.k3 (by assumption) ?_|refine RM.k4 rfl rfl ?_) |((with_reducible show wpBin _ _ _ _ _ _ _ _ _);first|refine RM.b4 rfl rfl ?_|refine RM.b5 rfl rfl ?_|refine RM.b6 rfl rfl ?_|refine RM.b7 rfl rfl ?_|refine RM.b8 rfl rfl ?_|refine RM.b9 rfl rfl ?_|refine RM.b1 rfl rfl (by omega) ?_|refine RM.b2 rfl rfl (by omega) ?_|refine RM.b3 rfl rfl (by omega) ?_|refine RM.r1 rfl rfl (by omega) ?_|refine RM.r2 rfl rfl (by omega) ?_) |((with_reducible show wpLen _ _ _ _ _);first|refine RM.l1 rfl ?_|refine RM.l2 rfl ?_) |((with_reducible show wpNil _ _ _);first|refine RM.l3 rfl ?_|refine RM.l4 rfl ?_) |((with_reducible show blockK _ _ _ _);first|refine RM.d5 rfl ?_|refine RM.d6 rfl ?_) |((with_reducible show RM.wpOp _ _ _ _ _ _);first|refine RM.n3 rfl ?_|refine RM.n4 rfl rfl ?_|refine RM.n5 rfl rfl ?_) |(refine ⟨_, rfl, ?_⟩) |(refine ⟨_, _, rfl, by decide, ?_⟩) |(refine ⟨rfl, rfl, rfl, ?_⟩) |(refine ⟨rfl, rfl, ?_⟩) |(refine ⟨_, _, rfl, _, rfl, ?_⟩) |(refine And.intro (Nat.le_of_ble_eq_true rfl) ?_) |(refine And.intro (by omega) ?_) |(refine ⟨_, _, rfl, rfl, _, rfl, rfl, ?_⟩) |(refine And.intro (by kernel_rfl) ?_) |(refine ⟨rfl, rfl, rfl, rfl, rfl, ?_⟩) |(refine ⟨_, _, rfl, rfl, rfl, rfl, Nat.le_of_ble_eq_true rfl, ?_⟩) |(refine ⟨_, _, rfl, Nat.le_of_ble_eq_true rfl, ?_⟩) |fail)
    refine ⟨fun h => ?_, fun h => ?_⟩
    · have hlt : k < a.length := by simpa only [ea, decide_eq_true_eq, Int.ofNat_lt] using h
      have hltb : k < b.length := by omega
      repeat' (first |with_reducible (first|refine RM.c1 ?_|refine RM.c2 ?_|refine RM.c3 ?_|refine RM.c4 ?_|refine RM.c5 ?_|refine RM.c6 ?_|refine RM.c7 ?_|refine RM.c8 ?_|refine RM.c9 ?_|refine RM.d1 ?_|refine RM.d2 ?_|refine RM.d3 ?_|refine RM.d4 ?_|refine RM.d7 ?_|refine RM.d8 ?_|refine RM.d9 ?_|refine RM.o1 ?_|refine RM.o2 ?_|refine RM.o3 ?_|refine RM.o4 ?_|refine RM.o5 ?_|refine RM.o6 ?_|refine RM.o7 ?_|refine RM.o9 ?_|refine RM.p1 ?_|refine RM.p2 ?_|refine RM.p3 ?_|refine RM.p4 ?_|refine RM.p5 ?_|refine RM.p6 ?_|refine RM.p7 ?_|refine RM.p8 ?_|refine RM.n1 ?_) |((with_reducible show force _ _);first|refine RM.f1 rfl ?_|refine RM.f2 rfl ?_|refine RM.f3 rfl ?_|refine RM.f4 rfl ?_|refine RM.f5 rfl ?_|refine RM.f6 rfl ?_|refine RM.f7 rfl ?_|refine RM.f8 rfl ?_|refine RM.f9 rfl ?_|refine RM.g1 rfl ?_|refine RM.g2 rfl ?_) |((with_reducible show wpOne _ _ _ _ _ _ _ _ _ _ _ _);refine RM.o8 rfl ?_) |((with_reducible show wpDOne _ _ _ _ _ _ _ _ _ _);refine RM.p9 rfl ?_) |((with_reducible show wpGuard _ _ _ _ _);first|refine wpGuard_yes rfl rfl rfl ?_|refine wpGuard_no rfl rfl rfl ?_|refine wpGuard_skip rfl rfl ?_|refine wpGuard_yes rfl rfl (by assumption) ?_|refine wpGuard_no rfl rfl (by assumption) ?_) |((with_reducible show wpC _ _ _ _ (.cond _ _ _) _ _);first|refine RM.e2 rfl rfl ?_|refine RM.e3 rfl rfl ?_|refine RM.e2 rfl (by assumption) ?_|refine RM.e3 rfl (by assumption) ?_) |((with_reducible show wpPick _ _ _ _ _);refine RM.k1 rfl ?_) |((with_reducible show wpPickB _ _ _ _ _);first|refine RM.k2 rfl ?_|refine RM.k3 rfl ?_|refine RM.k2 (by assumption) ?_|refine RM.k3 (by assumption) ?_|refine RM.k4 rfl rfl ?_) |((with_reducible show wpBin _ _ _ _ _ _ _ _ _);first|refine RM.b4 rfl rfl ?_|refine RM.b5 rfl rfl ?_|refine RM.b6 rfl rfl ?_|refine RM.b7 rfl rfl ?_|refine RM.b8 rfl rfl ?_|refine RM.b9 rfl rfl ?_|refine RM.b1 rfl rfl (by omega) ?_|refine RM.b2 rfl rfl (by omega) ?_|refine RM.b3 rfl rfl (by omega) ?_|refine RM.r1 rfl rfl (by omega) ?_|refine RM.r2 rfl rfl (by omega) ?_) |((with_reducible show wpLen _ _ _ _ _);first|refine RM.l1 rfl ?_|refine RM.l2 rfl ?_) |((with_reducible show wpNil _ _ _);first|refine RM.l3 rfl ?_|refine RM.l4 rfl ?_) |((with_reducible show blockK _ _ _ _);first|refine RM.d5 rfl ?_|refine RM.d6 rfl ?_) |((with_reducible show RM.wpOp _ _ _ _ _ _);first|refine RM.n3 rfl ?_|refine RM.n4 rfl rfl ?_|refine RM.n5 rfl rfl ?_) |(refine ⟨_, rfl, ?_⟩) |(refine ⟨_, _, rfl, by decide, ?_⟩) |(refine ⟨rfl, rfl, rfl, ?_⟩) |(refine ⟨rfl, rfl, ?_⟩) |(refine ⟨_, _, rfl, _, rfl, ?_⟩) |(refine And.intro (Nat.le_of_ble_eq_true rfl) ?_) |(refine And.intro (by omega) ?_) |(refine ⟨_, _, rfl, rfl, _, rfl, rfl, ?_⟩) |(refine And.intro (by kernel_rfl) ?_) |(refine ⟨rfl, rfl, rfl, rfl, rfl, ?_⟩) |(refine ⟨_, _, rfl, rfl, rfl, rfl, Nat.le_of_ble_eq_true rfl, ?_⟩) |(refine ⟨_, _, rfl, Nat.le_of_ble_eq_true rfl, ?_⟩) |(refine ⟨eI a[k], ⟨by omega, map_at hlt⟩, rfl, ?_⟩) |(refine ⟨eI b[k], ⟨by omega, map_at hltb⟩, rfl, ?_⟩) |((with_reducible show wpGuard _ _ _ _ _);refine wpGuard_split rfl rfl (fun h => ?_) (fun h => ?_)) |((with_reducible show wpC _ _ _ _ (.cond _ _ _) _ _);refine RM.e1 rfl ⟨fun h => ?_, fun h => ?_⟩) |fail)
      · refine ⟨[_], ⟨Fz.deep rfl, trivial⟩, bbc ?_⟩
        symm
        rw [decide_eq_false_iff_not]
        rintro rfl
        simp_all
      · refine ⟨k + 1, ⟨hlt, fun i hi hik => ?_⟩, (by dsimp only; omega), Weaker.to 0 rfl ⟨rfl, rfl, i64c (by simp), trivial⟩ (Nat.le_refl _) rfl rfl⟩
        by_cases hik' : i = k
        · subst hik'; simp_all
        · exact hprev i hi (by omega)
    · repeat' (first |with_reducible (first|refine RM.c1 ?_|refine RM.c2 ?_|refine RM.c3 ?_|refine RM.c4 ?_|refine RM.c5 ?_|refine RM.c6 ?_|refine RM.c7 ?_|refine RM.c8 ?_|refine RM.c9 ?_|refine RM.d1 ?_|refine RM.d2 ?_|refine RM.d3 ?_|refine RM.d4 ?_|refine RM.d7 ?_|refine RM.d8 ?_|refine RM.d9 ?_|refine RM.o1 ?_|refine RM.o2 ?_|refine RM.o3 ?_|refine RM.o4 ?_|refine RM.o5 ?_|refine RM.o6 ?_|refine RM.o7 ?_|refine RM.o9 ?_|refine RM.p1 ?_|refine RM.p2 ?_|refine RM.p3 ?_|refine RM.p4 ?_|refine RM.p5 ?_|refine RM.p6 ?_|refine RM.p7 ?_|refine RM.p8 ?_|refine RM.n1 ?_) |((with_reducible show force _ _);first|refine RM.f1 rfl ?_|refine RM.f2 rfl ?_|refine RM.f3 rfl ?_|refine RM.f4 rfl ?_|refine RM.f5 rfl ?_|refine RM.f6 rfl ?_|refine RM.f7 rfl ?_|refine RM.f8 rfl ?_|refine RM.f9 rfl ?_|refine RM.g1 rfl ?_|refine RM.g2 rfl ?_) |((with_reducible show wpOne _ _ _ _ _ _ _ _ _ _ _ _);refine RM.o8 rfl ?_) |((with_reducible show wpDOne _ _ _ _ _ _ _ _ _ _);refine RM.p9 rfl ?_) |((with_reducible show wpGuard _ _ _ _ _);first|refine wpGuard_yes rfl rfl rfl ?_|refine wpGuard_no rfl rfl rfl ?_|refine wpGuard_skip rfl rfl ?_|refine wpGuard_yes rfl rfl (by assumption) ?_|refine wpGuard_no rfl rfl (by assumption) ?_) |((with_reducible show wpC _ _ _ _ (.cond _ _ _) _ _);first|refine RM.e2 rfl rfl ?_|refine RM.e3 rfl rfl ?_|refine RM.e2 rfl (by assumption) ?_|refine RM.e3 rfl (by assumption) ?_) |((with_reducible show wpPick _ _ _ _ _);refine RM.k1 rfl ?_) |((with_reducible show wpPickB _ _ _ _ _);first|refine RM.k2 rfl ?_|refine RM.k3 rfl ?_|refine RM.k2 (by assumption) ?_|refine RM.k3 (by assumption) ?_|refine RM.k4 rfl rfl ?_) |((with_reducible show wpBin _ _ _ _ _ _ _ _ _);first|refine RM.b4 rfl rfl ?_|refine RM.b5 rfl rfl ?_|refine RM.b6 rfl rfl ?_|refine RM.b7 rfl rfl ?_|refine RM.b8 rfl rfl ?_|refine RM.b9 rfl rfl ?_|refine RM.b1 rfl rfl (by omega) ?_|refine RM.b2 rfl rfl (by omega) ?_|refine RM.b3 rfl rfl (by omega) ?_|refine RM.r1 rfl rfl (by omega) ?_|refine RM.r2 rfl rfl (by omega) ?_) |((with_reducible show wpLen _ _ _ _ _);first|refine RM.l1 rfl ?_|refine RM.l2 rfl ?_) |((with_reducible show wpNil _ _ _);first|refine RM.l3 rfl ?_|refine RM.l4 rfl ?_) |((with_reducible show blockK _ _ _ _);first|refine RM.d5 rfl ?_|refine RM.d6 rfl ?_) |((with_reducible show RM.wpOp _ _ _ _ _ _);first|refine RM.n3 rfl ?_|refine RM.n4 rfl rfl ?_|refine RM.n5 rfl rfl ?_) |(refine ⟨_, rfl, ?_⟩) |(refine ⟨_, _, rfl, by decide, ?_⟩) |(refine ⟨rfl, rfl, rfl, ?_⟩) |(refine ⟨rfl, rfl, ?_⟩) |(refine ⟨_, _, rfl, _, rfl, ?_⟩) |(refine And.intro (Nat.le_of_ble_eq_true rfl) ?_) |(refine And.intro (by omega) ?_) |(refine ⟨_, _, rfl, rfl, _, rfl, rfl, ?_⟩) |(refine And.intro (by kernel_rfl) ?_) |(refine ⟨rfl, rfl, rfl, rfl, rfl, ?_⟩) |(refine ⟨_, _, rfl, rfl, rfl, rfl, Nat.le_of_ble_eq_true rfl, ?_⟩) |(refine ⟨_, _, rfl, Nat.le_of_ble_eq_true rfl, ?_⟩) |fail)
      refine ⟨[_], ⟨Fz.deep rfl, trivial⟩, bbc ?_⟩
      have hkl : k = a.length := by rw [ea, decide_eq_false_iff_not] at h; omega
      symm
      rw [decide_eq_true_eq]
      exact List.ext_getElem hl fun i h1 _ => hprev i h1 (by omega)

theorem aw_c (one : Bool) : Pu one 22 [] (BB true) := PureV.closed (fun _ => rfl) rfl

theorem truthBad_not {s : Stores} {k : Kind} {t : Truth} {down : Int} : truthBad s k t down = !(truthOk k t && inB down 0 s.men.length) := by
  unfold truthBad truthOk
  simp only [outB_one]
  cases inB t.first k.first.lo k.first.hi <;> cases inB t.man k.man.lo k.man.hi <;> cases inB t.ship k.ship.lo k.ship.hi <;> cases inB down 0 s.men.length <;> rfl

theorem morn_1 {s : Stores} {kind : Int} {t : Truth} {down : Int} (h : (chk s).2.2 ≠ 0) : morn s kind t down = ([], 0, (chk s).2.2) := by
  unfold morn
  rw [if_pos h]
theorem morn_2 {s : Stores} {kind : Int} {t : Truth} {down : Int} (h : (chk s).2.2 = 0) (hk : inB kind 0 ((s.kinds.length : Int) - 1) = false) : morn s kind t down = ([], 0, 4) := by
  unfold morn
  rw [if_neg (by simpa using h), if_pos (by rw [outB_one, hk]; rfl)]
theorem morn_3 {s : Stores} {i : Nat} {t : Truth} {down : Int} (h : (chk s).2.2 = 0) (hi : i < s.kinds.length) : morn s i t down = if (truthOk s.kinds[i] t && inB down 0 s.men.length) = true then ((List.range (s.men.length + 1)).map (haveAt s.men s.kinds[i] (cargoRow i s.cargos) t down), shortAt s.men s.kinds[i] (cargoRow i s.cargos) t down s.men.length, 0) else ([], 0, 7) := by
  unfold morn
  rw [if_neg (by simpa using h), if_neg (by rw [outB_one, inB_iff.2 (by omega)]; decide)]
  simp only [Int.toNat_natCast, List.getElem?_eq_getElem hi]
  rw [truthBad_not]
  cases truthOk s.kinds[i] t && inB down 0 s.men.length <;> rfl

theorem rmornings_c (one : Bool) (s : Stores) (h : s.Ok) (kind : Int) (t : Truth) (down : Int) : Pu one 20 [.ag (eStores s), I64 kind, .ag (eTruth t), I64 down] (.tp [.sl ((morn s kind t down).1.map eI) false, I64 (morn s kind t down).2.1, I64 (morn s kind t down).2.2]) := by
  have hcc := rcheck_c s h one
  have hgood := chk_good (s := s)
  have em : ((s.men.map eI).length : Int) = s.men.length := by simp
  have ek : ((s.kinds.map eKind).length : Int) = s.kinds.length := by simp
  have hk := h.kinds
  unfold maxLen at hk
  by_cases h1 : (chk s).2.2 = 0
  · have hkc := in58_c one kind 0 (((s.kinds.map eKind).length : Int) - 1)
    rw [h1] at hcc
    cases hin : inB kind 0 ((s.kinds.length : Int) - 1) with
    | false =>
      rw [ek, hin, ← ek] at hkc
      rw [morn_2 h1 hin]
      refine PureV.body (fn := Try.f20) rfl rfl rfl rfl ?_
      refine wpC_sound (mu := fun _ => false) ?_
      repeat' (first |with_reducible (first|refine RM.c1 ?_|refine RM.c2 ?_|refine RM.c3 ?_|refine RM.c4 ?_|refine RM.c5 ?_|refine RM.c6 ?_|refine RM.c7 ?_|refine RM.c8 ?_|refine RM.c9 ?_|refine RM.d1 ?_|refine RM.d2 ?_|refine RM.d3 ?_|refine RM.d4 ?_|refine RM.d7 ?_|refine RM.d8 ?_|refine RM.d9 ?_|refine RM.o1 ?_|refine RM.o2 ?_|refine RM.o3 ?_|refine RM.o4 ?_|refine RM.o5 ?_|refine RM.o6 ?_|refine RM.o7 ?_|refine RM.o9 ?_|refine RM.p1 ?_|refine RM.p2 ?_|refine RM.p3 ?_|refine RM.p4 ?_|refine RM.p5 ?_|refine RM.p6 ?_|refine RM.p7 ?_|refine RM.p8 ?_|refine RM.n1 ?_) |((with_reducible show force _ _);first|refine RM.f1 rfl ?_|refine RM.f2 rfl ?_|refine RM.f3 rfl ?_|refine RM.f4 rfl ?_|refine RM.f5 rfl ?_|refine RM.f6 rfl ?_|refine RM.f7 rfl ?_|refine RM.f8 rfl ?_|refine RM.f9 rfl ?_|refine RM.g1 rfl ?_|refine RM.g2 rfl ?_) |((with_reducible show wpOne _ _ _ _ _ _ _ _ _ _ _ _);refine RM.o8 rfl ?_) |((with_reducible show wpDOne _ _ _ _ _ _ _ _ _ _);refine RM.p9 rfl ?_) |((with_reducible show wpGuard _ _ _ _ _);first|refine wpGuard_yes rfl rfl rfl ?_|refine wpGuard_no rfl rfl rfl ?_|refine wpGuard_skip rfl rfl ?_|refine wpGuard_yes rfl rfl (by assumption) ?_|refine wpGuard_no rfl rfl (by assumption) ?_) |((with_reducible show wpC _ _ _ _ (.cond _ _ _) _ _);first|refine RM.e2 rfl rfl ?_|refine RM.e3 rfl rfl ?_|refine RM.e2 rfl (by assumption) ?_|refine RM.e3 rfl (by assumption) ?_) |((with_reducible show wpPick _ _ _ _ _);refine RM.k1 rfl ?_) |((with_reducible show wpPickB _ _ _ _ _);first|refine RM.k2 rfl ?_|refine RM.k3 rfl ?_|refine RM.k2 (by assumption) ?_|refine RM.k3 (by assumption) ?_|refine RM.k4 rfl rfl ?_) |((with_reducible show wpBin _ _ _ _ _ _ _ _ _);first|refine RM.b4 rfl rfl ?_|refine RM.b5 rfl rfl ?_|refine RM.b6 rfl rfl ?_|refine RM.b7 rfl rfl ?_|refine RM.b8 rfl rfl ?_|refine RM.b9 rfl rfl ?_|refine RM.b1 rfl rfl (by omega) ?_|refine RM.b2 rfl rfl (by omega) ?_|refine RM.b3 rfl rfl (by omega) ?_|refine RM.r1 rfl rfl (by omega) ?_|refine RM.r2 rfl rfl (by omega) ?_) |((with_reducible show wpLen _ _ _ _ _);first|refine RM.l1 rfl ?_|refine RM.l2 rfl ?_) |((with_reducible show wpNil _ _ _);first|refine RM.l3 rfl ?_|refine RM.l4 rfl ?_) |((with_reducible show blockK _ _ _ _);first|refine RM.d5 rfl ?_|refine RM.d6 rfl ?_) |((with_reducible show RM.wpOp _ _ _ _ _ _);first|refine RM.n3 rfl ?_|refine RM.n4 rfl rfl ?_|refine RM.n5 rfl rfl ?_) |(refine ⟨_, rfl, ?_⟩) |(refine ⟨_, _, rfl, by decide, ?_⟩) |(refine ⟨rfl, rfl, rfl, ?_⟩) |(refine ⟨rfl, rfl, ?_⟩) |(refine ⟨_, _, rfl, _, rfl, ?_⟩) |(refine And.intro (Nat.le_of_ble_eq_true rfl) ?_) |(refine And.intro (by omega) ?_) |(refine ⟨_, _, rfl, rfl, _, rfl, rfl, ?_⟩) |(refine And.intro (by kernel_rfl) ?_) |(refine ⟨rfl, rfl, rfl, rfl, rfl, ?_⟩) |(refine ⟨_, _, rfl, rfl, rfl, rfl, Nat.le_of_ble_eq_true rfl, ?_⟩) |(refine ⟨_, _, rfl, Nat.le_of_ble_eq_true rfl, ?_⟩) |(refine PureV.call hcc rfl rfl ?_) |(refine PureV.call hkc rfl rfl ?_) |fail)
      exact ⟨[_, _, _], ⟨Fz.nil (b := false), Fz.deep rfl, Fz.deep rfl, trivial⟩, rfl⟩
    | true =>
      rw [ek, hin, ← ek] at hkc
      have h2' := inB_iff.1 hin
      obtain ⟨i, rfl⟩ := Int.eq_ofNat_of_zero_le h2'.1
      have hi : i < s.kinds.length := by omega
      have hg := hgood h1
      have hrun := hg.run (List.getElem_mem hi) (i : Int) (t := t) (down := down)
      rw [truthBad_not] at hrun
      have hrr := fun h => rrun_c one s hg i hi t down h
      have htr := truth_c true s.kinds[i] t
      have hdn := in58_c true down 0 ((s.men.map eI).length : Int)
      rw [morn_3 h1 hi]
      cases ht : truthOk s.kinds[i] t with
      | false =>
        rw [if_neg (by simp)]
        rw [ht] at htr
        refine PureV.body (fn := Try.f20) rfl rfl rfl rfl ?_
        refine wpC_sound (mu := fun _ => false) ?_
        repeat' (first |with_reducible (first|refine RM.c1 ?_|refine RM.c2 ?_|refine RM.c3 ?_|refine RM.c4 ?_|refine RM.c5 ?_|refine RM.c6 ?_|refine RM.c7 ?_|refine RM.c8 ?_|refine RM.c9 ?_|refine RM.d1 ?_|refine RM.d2 ?_|refine RM.d3 ?_|refine RM.d4 ?_|refine RM.d7 ?_|refine RM.d8 ?_|refine RM.d9 ?_|refine RM.o1 ?_|refine RM.o2 ?_|refine RM.o3 ?_|refine RM.o4 ?_|refine RM.o5 ?_|refine RM.o6 ?_|refine RM.o7 ?_|refine RM.o9 ?_|refine RM.p1 ?_|refine RM.p2 ?_|refine RM.p3 ?_|refine RM.p4 ?_|refine RM.p5 ?_|refine RM.p6 ?_|refine RM.p7 ?_|refine RM.p8 ?_|refine RM.n1 ?_) |((with_reducible show force _ _);first|refine RM.f1 rfl ?_|refine RM.f2 rfl ?_|refine RM.f3 rfl ?_|refine RM.f4 rfl ?_|refine RM.f5 rfl ?_|refine RM.f6 rfl ?_|refine RM.f7 rfl ?_|refine RM.f8 rfl ?_|refine RM.f9 rfl ?_|refine RM.g1 rfl ?_|refine RM.g2 rfl ?_) |((with_reducible show wpOne _ _ _ _ _ _ _ _ _ _ _ _);refine RM.o8 rfl ?_) |((with_reducible show wpDOne _ _ _ _ _ _ _ _ _ _);refine RM.p9 rfl ?_) |((with_reducible show wpGuard _ _ _ _ _);first|refine wpGuard_yes rfl rfl rfl ?_|refine wpGuard_no rfl rfl rfl ?_|refine wpGuard_skip rfl rfl ?_|refine wpGuard_yes rfl rfl (by assumption) ?_|refine wpGuard_no rfl rfl (by assumption) ?_) |((with_reducible show wpC _ _ _ _ (.cond _ _ _) _ _);first|refine RM.e2 rfl rfl ?_|refine RM.e3 rfl rfl ?_|refine RM.e2 rfl (by assumption) ?_|refine RM.e3 rfl (by assumption) ?_) |((with_reducible show wpPick _ _ _ _ _);refine RM.k1 rfl ?_) |((with_reducible show wpPickB _ _ _ _ _);first|refine RM.k2 rfl ?_|refine RM.k3 rfl ?_|refine RM.k2 (by assumption) ?_|refine RM.k3 (by assumption) ?_|refine RM.k4 rfl rfl ?_) |((with_reducible show wpBin _ _ _ _ _ _ _ _ _);first|refine RM.b4 rfl rfl ?_|refine RM.b5 rfl rfl ?_|refine RM.b6 rfl rfl ?_|refine RM.b7 rfl rfl ?_|refine RM.b8 rfl rfl ?_|refine RM.b9 rfl rfl ?_|refine RM.b1 rfl rfl (by omega) ?_|refine RM.b2 rfl rfl (by omega) ?_|refine RM.b3 rfl rfl (by omega) ?_|refine RM.r1 rfl rfl (by omega) ?_|refine RM.r2 rfl rfl (by omega) ?_) |((with_reducible show wpLen _ _ _ _ _);first|refine RM.l1 rfl ?_|refine RM.l2 rfl ?_) |((with_reducible show wpNil _ _ _);first|refine RM.l3 rfl ?_|refine RM.l4 rfl ?_) |((with_reducible show blockK _ _ _ _);first|refine RM.d5 rfl ?_|refine RM.d6 rfl ?_) |((with_reducible show RM.wpOp _ _ _ _ _ _);first|refine RM.n3 rfl ?_|refine RM.n4 rfl rfl ?_|refine RM.n5 rfl rfl ?_) |(refine ⟨_, rfl, ?_⟩) |(refine ⟨_, _, rfl, by decide, ?_⟩) |(refine ⟨rfl, rfl, rfl, ?_⟩) |(refine ⟨rfl, rfl, ?_⟩) |(refine ⟨_, _, rfl, _, rfl, ?_⟩) |(refine And.intro (Nat.le_of_ble_eq_true rfl) ?_) |(refine And.intro (by omega) ?_) |(refine ⟨_, _, rfl, rfl, _, rfl, rfl, ?_⟩) |(refine And.intro (by kernel_rfl) ?_) |(refine ⟨rfl, rfl, rfl, rfl, rfl, ?_⟩) |(refine ⟨_, _, rfl, rfl, rfl, rfl, Nat.le_of_ble_eq_true rfl, ?_⟩) |(refine ⟨_, _, rfl, Nat.le_of_ble_eq_true rfl, ?_⟩) |(refine PureV.call hcc rfl rfl ?_) |(refine PureV.call hkc rfl rfl ?_) |(refine ⟨eKind s.kinds[i], ⟨by omega, map_at hi⟩, rfl, ?_⟩) |(refine ⟨_, htr, ?_⟩) |fail)
        exact ⟨[_, _, _], ⟨Fz.nil (b := false), Fz.deep rfl, Fz.deep rfl, trivial⟩, rfl⟩
      | true =>
        rw [ht] at htr
        cases hd : inB down 0 s.men.length with
        | false =>
          rw [if_neg (by simp)]
          rw [em, hd, ← em] at hdn
          refine PureV.body (fn := Try.f20) rfl rfl rfl rfl ?_
          refine wpC_sound (mu := fun _ => false) ?_
          repeat' (first |with_reducible (first|refine RM.c1 ?_|refine RM.c2 ?_|refine RM.c3 ?_|refine RM.c4 ?_|refine RM.c5 ?_|refine RM.c6 ?_|refine RM.c7 ?_|refine RM.c8 ?_|refine RM.c9 ?_|refine RM.d1 ?_|refine RM.d2 ?_|refine RM.d3 ?_|refine RM.d4 ?_|refine RM.d7 ?_|refine RM.d8 ?_|refine RM.d9 ?_|refine RM.o1 ?_|refine RM.o2 ?_|refine RM.o3 ?_|refine RM.o4 ?_|refine RM.o5 ?_|refine RM.o6 ?_|refine RM.o7 ?_|refine RM.o9 ?_|refine RM.p1 ?_|refine RM.p2 ?_|refine RM.p3 ?_|refine RM.p4 ?_|refine RM.p5 ?_|refine RM.p6 ?_|refine RM.p7 ?_|refine RM.p8 ?_|refine RM.n1 ?_) |((with_reducible show force _ _);first|refine RM.f1 rfl ?_|refine RM.f2 rfl ?_|refine RM.f3 rfl ?_|refine RM.f4 rfl ?_|refine RM.f5 rfl ?_|refine RM.f6 rfl ?_|refine RM.f7 rfl ?_|refine RM.f8 rfl ?_|refine RM.f9 rfl ?_|refine RM.g1 rfl ?_|refine RM.g2 rfl ?_) |((with_reducible show wpOne _ _ _ _ _ _ _ _ _ _ _ _);refine RM.o8 rfl ?_) |((with_reducible show wpDOne _ _ _ _ _ _ _ _ _ _);refine RM.p9 rfl ?_) |((with_reducible show wpGuard _ _ _ _ _);first|refine wpGuard_yes rfl rfl rfl ?_|refine wpGuard_no rfl rfl rfl ?_|refine wpGuard_skip rfl rfl ?_|refine wpGuard_yes rfl rfl (by assumption) ?_|refine wpGuard_no rfl rfl (by assumption) ?_) |((with_reducible show wpC _ _ _ _ (.cond _ _ _) _ _);first|refine RM.e2 rfl rfl ?_|refine RM.e3 rfl rfl ?_|refine RM.e2 rfl (by assumption) ?_|refine RM.e3 rfl (by assumption) ?_) |((with_reducible show wpPick _ _ _ _ _);refine RM.k1 rfl ?_) |((with_reducible show wpPickB _ _ _ _ _);first|refine RM.k2 rfl ?_|refine RM.k3 rfl ?_|refine RM.k2 (by assumption) ?_|refine RM.k3 (by assumption) ?_|refine RM.k4 rfl rfl ?_) |((with_reducible show wpBin _ _ _ _ _ _ _ _ _);first|refine RM.b4 rfl rfl ?_|refine RM.b5 rfl rfl ?_|refine RM.b6 rfl rfl ?_|refine RM.b7 rfl rfl ?_|refine RM.b8 rfl rfl ?_|refine RM.b9 rfl rfl ?_|refine RM.b1 rfl rfl (by omega) ?_|refine RM.b2 rfl rfl (by omega) ?_|refine RM.b3 rfl rfl (by omega) ?_|refine RM.r1 rfl rfl (by omega) ?_|refine RM.r2 rfl rfl (by omega) ?_) |((with_reducible show wpLen _ _ _ _ _);first|refine RM.l1 rfl ?_|refine RM.l2 rfl ?_) |((with_reducible show wpNil _ _ _);first|refine RM.l3 rfl ?_|refine RM.l4 rfl ?_) |((with_reducible show blockK _ _ _ _);first|refine RM.d5 rfl ?_|refine RM.d6 rfl ?_) |((with_reducible show RM.wpOp _ _ _ _ _ _);first|refine RM.n3 rfl ?_|refine RM.n4 rfl rfl ?_|refine RM.n5 rfl rfl ?_) |(refine ⟨_, rfl, ?_⟩) |(refine ⟨_, _, rfl, by decide, ?_⟩) |(refine ⟨rfl, rfl, rfl, ?_⟩) |(refine ⟨rfl, rfl, ?_⟩) |(refine ⟨_, _, rfl, _, rfl, ?_⟩) |(refine And.intro (Nat.le_of_ble_eq_true rfl) ?_) |(refine And.intro (by omega) ?_) |(refine ⟨_, _, rfl, rfl, _, rfl, rfl, ?_⟩) |(refine And.intro (by kernel_rfl) ?_) |(refine ⟨rfl, rfl, rfl, rfl, rfl, ?_⟩) |(refine ⟨_, _, rfl, rfl, rfl, rfl, Nat.le_of_ble_eq_true rfl, ?_⟩) |(refine ⟨_, _, rfl, Nat.le_of_ble_eq_true rfl, ?_⟩) |(refine PureV.call hcc rfl rfl ?_) |(refine PureV.call hkc rfl rfl ?_) |(refine ⟨eKind s.kinds[i], ⟨by omega, map_at hi⟩, rfl, ?_⟩) |(refine ⟨_, htr, ?_⟩) |(refine ⟨_, hdn, ?_⟩) |fail)
          exact ⟨[_, _, _], ⟨Fz.nil (b := false), Fz.deep rfl, Fz.deep rfl, trivial⟩, rfl⟩
        | true =>
          have hrun := hrun (by rw [ht, hd]; rfl)
          have hrr := hrr hrun.1
          rw [if_pos (by simp)]
          rw [em, hd, ← em] at hdn
          refine PureV.body (fn := Try.f20) rfl rfl rfl rfl ?_
          refine wpC_sound (mu := fun _ => false) ?_
          repeat' (first |with_reducible (first|refine RM.c1 ?_|refine RM.c2 ?_|refine RM.c3 ?_|refine RM.c4 ?_|refine RM.c5 ?_|refine RM.c6 ?_|refine RM.c7 ?_|refine RM.c8 ?_|refine RM.c9 ?_|refine RM.d1 ?_|refine RM.d2 ?_|refine RM.d3 ?_|refine RM.d4 ?_|refine RM.d7 ?_|refine RM.d8 ?_|refine RM.d9 ?_|refine RM.o1 ?_|refine RM.o2 ?_|refine RM.o3 ?_|refine RM.o4 ?_|refine RM.o5 ?_|refine RM.o6 ?_|refine RM.o7 ?_|refine RM.o9 ?_|refine RM.p1 ?_|refine RM.p2 ?_|refine RM.p3 ?_|refine RM.p4 ?_|refine RM.p5 ?_|refine RM.p6 ?_|refine RM.p7 ?_|refine RM.p8 ?_|refine RM.n1 ?_) |((with_reducible show force _ _);first|refine RM.f1 rfl ?_|refine RM.f2 rfl ?_|refine RM.f3 rfl ?_|refine RM.f4 rfl ?_|refine RM.f5 rfl ?_|refine RM.f6 rfl ?_|refine RM.f7 rfl ?_|refine RM.f8 rfl ?_|refine RM.f9 rfl ?_|refine RM.g1 rfl ?_|refine RM.g2 rfl ?_) |((with_reducible show wpOne _ _ _ _ _ _ _ _ _ _ _ _);refine RM.o8 rfl ?_) |((with_reducible show wpDOne _ _ _ _ _ _ _ _ _ _);refine RM.p9 rfl ?_) |((with_reducible show wpGuard _ _ _ _ _);first|refine wpGuard_yes rfl rfl rfl ?_|refine wpGuard_no rfl rfl rfl ?_|refine wpGuard_skip rfl rfl ?_|refine wpGuard_yes rfl rfl (by assumption) ?_|refine wpGuard_no rfl rfl (by assumption) ?_) |((with_reducible show wpC _ _ _ _ (.cond _ _ _) _ _);first|refine RM.e2 rfl rfl ?_|refine RM.e3 rfl rfl ?_|refine RM.e2 rfl (by assumption) ?_|refine RM.e3 rfl (by assumption) ?_) |((with_reducible show wpPick _ _ _ _ _);refine RM.k1 rfl ?_) |((with_reducible show wpPickB _ _ _ _ _);first|refine RM.k2 rfl ?_|refine RM.k3 rfl ?_|refine RM.k2 (by assumption) ?_|refine RM.k3 (by assumption) ?_|refine RM.k4 rfl rfl ?_) |((with_reducible show wpBin _ _ _ _ _ _ _ _ _);first|refine RM.b4 rfl rfl ?_|refine RM.b5 rfl rfl ?_|refine RM.b6 rfl rfl ?_|refine RM.b7 rfl rfl ?_|refine RM.b8 rfl rfl ?_|refine RM.b9 rfl rfl ?_|refine RM.b1 rfl rfl (by omega) ?_|refine RM.b2 rfl rfl (by omega) ?_|refine RM.b3 rfl rfl (by omega) ?_|refine RM.r1 rfl rfl (by omega) ?_|refine RM.r2 rfl rfl (by omega) ?_) |((with_reducible show wpLen _ _ _ _ _);first|refine RM.l1 rfl ?_|refine RM.l2 rfl ?_) |((with_reducible show wpNil _ _ _);first|refine RM.l3 rfl ?_|refine RM.l4 rfl ?_) |((with_reducible show blockK _ _ _ _);first|refine RM.d5 rfl ?_|refine RM.d6 rfl ?_) |((with_reducible show RM.wpOp _ _ _ _ _ _);first|refine RM.n3 rfl ?_|refine RM.n4 rfl rfl ?_|refine RM.n5 rfl rfl ?_) |(refine ⟨_, rfl, ?_⟩) |(refine ⟨_, _, rfl, by decide, ?_⟩) |(refine ⟨rfl, rfl, rfl, ?_⟩) |(refine ⟨rfl, rfl, ?_⟩) |(refine ⟨_, _, rfl, _, rfl, ?_⟩) |(refine And.intro (Nat.le_of_ble_eq_true rfl) ?_) |(refine And.intro (by omega) ?_) |(refine ⟨_, _, rfl, rfl, _, rfl, rfl, ?_⟩) |(refine And.intro (by kernel_rfl) ?_) |(refine ⟨rfl, rfl, rfl, rfl, rfl, ?_⟩) |(refine ⟨_, _, rfl, rfl, rfl, rfl, Nat.le_of_ble_eq_true rfl, ?_⟩) |(refine ⟨_, _, rfl, Nat.le_of_ble_eq_true rfl, ?_⟩) |(refine PureV.call hcc rfl rfl ?_) |(refine PureV.call hkc rfl rfl ?_) |(refine ⟨eKind s.kinds[i], ⟨by omega, map_at hi⟩, rfl, ?_⟩) |(refine ⟨_, htr, ?_⟩) |(refine ⟨_, hdn, ?_⟩) |(refine PureV.call hrr rfl rfl ?_) |fail)
          refine ⟨[_, _, _], ⟨Fz.deep rfl, Fz.deep rfl, Fz.deep rfl, trivial⟩, ?_⟩
          refine tpG (slE ?_) rfl rfl
          rw [List.map_map]
          rfl
  · have e1 : decide ((chk s).2.2 = 0) = false := by simpa using h1
    have e1n : (!decide ((chk s).2.2 = 0)) = true := by simpa using h1
    rw [morn_1 h1]
    generalize chk s = c at hcc h1 e1 e1n
    refine PureV.body (fn := Try.f20) rfl rfl rfl rfl ?_
    refine wpC_sound (mu := fun _ => false) ?_
    repeat' (first |with_reducible (first|refine RM.c1 ?_|refine RM.c2 ?_|refine RM.c3 ?_|refine RM.c4 ?_|refine RM.c5 ?_|refine RM.c6 ?_|refine RM.c7 ?_|refine RM.c8 ?_|refine RM.c9 ?_|refine RM.d1 ?_|refine RM.d2 ?_|refine RM.d3 ?_|refine RM.d4 ?_|refine RM.d7 ?_|refine RM.d8 ?_|refine RM.d9 ?_|refine RM.o1 ?_|refine RM.o2 ?_|refine RM.o3 ?_|refine RM.o4 ?_|refine RM.o5 ?_|refine RM.o6 ?_|refine RM.o7 ?_|refine RM.o9 ?_|refine RM.p1 ?_|refine RM.p2 ?_|refine RM.p3 ?_|refine RM.p4 ?_|refine RM.p5 ?_|refine RM.p6 ?_|refine RM.p7 ?_|refine RM.p8 ?_|refine RM.n1 ?_) |((with_reducible show force _ _);first|refine RM.f1 rfl ?_|refine RM.f2 rfl ?_|refine RM.f3 rfl ?_|refine RM.f4 rfl ?_|refine RM.f5 rfl ?_|refine RM.f6 rfl ?_|refine RM.f7 rfl ?_|refine RM.f8 rfl ?_|refine RM.f9 rfl ?_|refine RM.g1 rfl ?_|refine RM.g2 rfl ?_) |((with_reducible show wpOne _ _ _ _ _ _ _ _ _ _ _ _);refine RM.o8 rfl ?_) |((with_reducible show wpDOne _ _ _ _ _ _ _ _ _ _);refine RM.p9 rfl ?_) |((with_reducible show wpGuard _ _ _ _ _);first|refine wpGuard_yes rfl rfl rfl ?_|refine wpGuard_no rfl rfl rfl ?_|refine wpGuard_skip rfl rfl ?_|refine wpGuard_yes rfl rfl (by assumption) ?_|refine wpGuard_no rfl rfl (by assumption) ?_) |((with_reducible show wpC _ _ _ _ (.cond _ _ _) _ _);first|refine RM.e2 rfl rfl ?_|refine RM.e3 rfl rfl ?_|refine RM.e2 rfl (by assumption) ?_|refine RM.e3 rfl (by assumption) ?_) |((with_reducible show wpPick _ _ _ _ _);refine RM.k1 rfl ?_) |((with_reducible show wpPickB _ _ _ _ _);first|refine RM.k2 rfl ?_|refine RM.k3 rfl ?_|refine RM.k2 (by assumption) ?_|refine RM.k3 (by assumption) ?_|refine RM.k4 rfl rfl ?_) |((with_reducible show wpBin _ _ _ _ _ _ _ _ _);first|refine RM.b4 rfl rfl ?_|refine RM.b5 rfl rfl ?_|refine RM.b6 rfl rfl ?_|refine RM.b7 rfl rfl ?_|refine RM.b8 rfl rfl ?_|refine RM.b9 rfl rfl ?_|refine RM.b1 rfl rfl (by omega) ?_|refine RM.b2 rfl rfl (by omega) ?_|refine RM.b3 rfl rfl (by omega) ?_|refine RM.r1 rfl rfl (by omega) ?_|refine RM.r2 rfl rfl (by omega) ?_) |((with_reducible show wpLen _ _ _ _ _);first|refine RM.l1 rfl ?_|refine RM.l2 rfl ?_) |((with_reducible show wpNil _ _ _);first|refine RM.l3 rfl ?_|refine RM.l4 rfl ?_) |((with_reducible show blockK _ _ _ _);first|refine RM.d5 rfl ?_|refine RM.d6 rfl ?_) |((with_reducible show RM.wpOp _ _ _ _ _ _);first|refine RM.n3 rfl ?_|refine RM.n4 rfl rfl ?_|refine RM.n5 rfl rfl ?_) |(refine ⟨_, rfl, ?_⟩) |(refine ⟨_, _, rfl, by decide, ?_⟩) |(refine ⟨rfl, rfl, rfl, ?_⟩) |(refine ⟨rfl, rfl, ?_⟩) |(refine ⟨_, _, rfl, _, rfl, ?_⟩) |(refine And.intro (Nat.le_of_ble_eq_true rfl) ?_) |(refine And.intro (by omega) ?_) |(refine ⟨_, _, rfl, rfl, _, rfl, rfl, ?_⟩) |(refine And.intro (by kernel_rfl) ?_) |(refine ⟨rfl, rfl, rfl, rfl, rfl, ?_⟩) |(refine ⟨_, _, rfl, rfl, rfl, rfl, Nat.le_of_ble_eq_true rfl, ?_⟩) |(refine ⟨_, _, rfl, Nat.le_of_ble_eq_true rfl, ?_⟩) |(refine PureV.call hcc rfl rfl ?_) |fail)
    exact ⟨[_, _, _], ⟨Fz.nil (b := false), Fz.deep rfl, Fz.deep rfl, trivial⟩, rfl⟩

theorem morn_len (s : Stores) (kind : Int) (t : Truth) (down : Int) : (morn s kind t down).1.length ≤ maxLen := by
  unfold morn
  split
  · simp
  · split
    · simp
    · split
      · simp
      · split
        · simp
        · rename_i h1 _ _ _ _ _
          have := sizes_ok (chk_good (s := s) (by simpa using h1)).sizes
          simp only [List.length_map, List.length_range]
          unfold maxLen
          omega

theorem law3_c (s : Stores) (h : s.Ok) (t : Truth) (a b : Int) : Pu true 3 [.ag (eStores s), .ag (eTruth t), .ag [I64 a, I64 b]] (BB true) := by
  have hc := check_c s h true
  have hrc := rcheck_c s h true
  have hm := mornings_c true s h a t b
  have hrm := rmornings_c true s h a t b
  have hi := ints_c true (morn s a t b).1 (morn s a t b).1 false false (morn_len s a t b) (morn_len s a t b)
  rw [decide_eq_true rfl] at hi
  generalize chk s = c at hc hrc
  generalize morn s a t b = m at hm hrm hi
  have e1 : (!decide (c.1 = c.1)) = false := by simp
  have e2 : (!decide (c.2.1 = c.2.1)) = false := by simp
  have e3 : (!decide (c.2.2 = c.2.2)) = false := by simp
  have e4 : decide (m.2.1 = m.2.1) = true := by simp
  have e5 : decide (m.2.2 = m.2.2) = true := by simp
  refine PureV.body (fn := Try.f3) rfl rfl rfl rfl ?_
  refine wpC_sound (mu := fun _ => false) ?_
  repeat' (first |with_reducible (first|refine RM.c1 ?_|refine RM.c2 ?_|refine RM.c3 ?_|refine RM.c4 ?_|refine RM.c5 ?_|refine RM.c6 ?_|refine RM.c7 ?_|refine RM.c8 ?_|refine RM.c9 ?_|refine RM.d1 ?_|refine RM.d2 ?_|refine RM.d3 ?_|refine RM.d4 ?_|refine RM.d7 ?_|refine RM.d8 ?_|refine RM.d9 ?_|refine RM.o1 ?_|refine RM.o2 ?_|refine RM.o3 ?_|refine RM.o4 ?_|refine RM.o5 ?_|refine RM.o6 ?_|refine RM.o7 ?_|refine RM.o9 ?_|refine RM.p1 ?_|refine RM.p2 ?_|refine RM.p3 ?_|refine RM.p4 ?_|refine RM.p5 ?_|refine RM.p6 ?_|refine RM.p7 ?_|refine RM.p8 ?_|refine RM.n1 ?_) |((with_reducible show force _ _);first|refine RM.f1 rfl ?_|refine RM.f2 rfl ?_|refine RM.f3 rfl ?_|refine RM.f4 rfl ?_|refine RM.f5 rfl ?_|refine RM.f6 rfl ?_|refine RM.f7 rfl ?_|refine RM.f8 rfl ?_|refine RM.f9 rfl ?_|refine RM.g1 rfl ?_|refine RM.g2 rfl ?_) |((with_reducible show wpOne _ _ _ _ _ _ _ _ _ _ _ _);refine RM.o8 rfl ?_) |((with_reducible show wpDOne _ _ _ _ _ _ _ _ _ _);refine RM.p9 rfl ?_) |((with_reducible show wpGuard _ _ _ _ _);first|refine wpGuard_yes rfl rfl rfl ?_|refine wpGuard_no rfl rfl rfl ?_|refine wpGuard_skip rfl rfl ?_|refine wpGuard_yes rfl rfl (by assumption) ?_|refine wpGuard_no rfl rfl (by assumption) ?_) |((with_reducible show wpC _ _ _ _ (.cond _ _ _) _ _);first|refine RM.e2 rfl rfl ?_|refine RM.e3 rfl rfl ?_|refine RM.e2 rfl (by assumption) ?_|refine RM.e3 rfl (by assumption) ?_) |((with_reducible show wpPick _ _ _ _ _);refine RM.k1 rfl ?_) |((with_reducible show wpPickB _ _ _ _ _);first|refine RM.k2 rfl ?_|refine RM.k3 rfl ?_|refine RM.k2 (by assumption) ?_|refine RM.k3 (by assumption) ?_|refine RM.k4 rfl rfl ?_) |((with_reducible show wpBin _ _ _ _ _ _ _ _ _);first|refine RM.b4 rfl rfl ?_|refine RM.b5 rfl rfl ?_|refine RM.b6 rfl rfl ?_|refine RM.b7 rfl rfl ?_|refine RM.b8 rfl rfl ?_|refine RM.b9 rfl rfl ?_|refine RM.b1 rfl rfl (by omega) ?_|refine RM.b2 rfl rfl (by omega) ?_|refine RM.b3 rfl rfl (by omega) ?_|refine RM.r1 rfl rfl (by omega) ?_|refine RM.r2 rfl rfl (by omega) ?_) |((with_reducible show wpLen _ _ _ _ _);first|refine RM.l1 rfl ?_|refine RM.l2 rfl ?_) |((with_reducible show wpNil _ _ _);first|refine RM.l3 rfl ?_|refine RM.l4 rfl ?_) |((with_reducible show blockK _ _ _ _);first|refine RM.d5 rfl ?_|refine RM.d6 rfl ?_) |((with_reducible show RM.wpOp _ _ _ _ _ _);first|refine RM.n3 rfl ?_|refine RM.n4 rfl rfl ?_|refine RM.n5 rfl rfl ?_) |(refine ⟨_, rfl, ?_⟩) |(refine ⟨_, _, rfl, by decide, ?_⟩) |(refine ⟨rfl, rfl, rfl, ?_⟩) |(refine ⟨rfl, rfl, ?_⟩) |(refine ⟨_, _, rfl, _, rfl, ?_⟩) |(refine And.intro (Nat.le_of_ble_eq_true rfl) ?_) |(refine And.intro (by omega) ?_) |(refine ⟨_, _, rfl, rfl, _, rfl, rfl, ?_⟩) |(refine And.intro (by kernel_rfl) ?_) |(refine ⟨rfl, rfl, rfl, rfl, rfl, ?_⟩) |(refine ⟨_, _, rfl, rfl, rfl, rfl, Nat.le_of_ble_eq_true rfl, ?_⟩) |(refine ⟨_, _, rfl, Nat.le_of_ble_eq_true rfl, ?_⟩) |(refine PureV.call hc rfl rfl ?_) |(refine PureV.call hrc rfl rfl ?_) |(refine PureV.call hm rfl rfl ?_) |(refine PureV.call hrm rfl rfl ?_) |(refine PureV.call hi rfl rfl ?_) |(refine PureV.call (aw_c true) rfl rfl ?_) |fail)
  exact ⟨[_], ⟨Fz.deep rfl, trivial⟩, rfl⟩
end Go.Proofs.Ytmkaeohmdcoanaa
namespace Go.Proofs.Ytmkaeohmdcoanaa
open Go.RM
set_option maxRecDepth 1000000
noncomputable def tabA : List XE := [x_a1, x_a2, x_a3, x_a4, x_a5, x_a6, x_a7, x_a8]
theorem xs_tabA : ∀ e ∈ tabA, XSound TT e := by
  unfold tabA
  simp only [List.mem_cons, List.not_mem_nil, or_false]
  rintro e (rfl | rfl | rfl | rfl | rfl | rfl | rfl | rfl)
  · exact xs_a1
  · exact xs_a2
  · exact xs_a3
  · exact xs_a4
  · exact xs_a5
  · exact xs_a6
  · exact xs_a7
  · exact xs_a8
theorem xs_aw : XSound TT x_aw := xe_add tt_ok tt_mixed xs_tabA 1000 (by kernel_rfl)
theorem xs_TB : ∀ e ∈ TB, XSound TT e := fun e he => by
  obtain rfl := List.mem_singleton.1 he
  exact xs_aw
end Go.Proofs.Ytmkaeohmdcoanaa
open Go Go.RM
namespace Go.Proofs.Ytmkaeohmdcoanaa
open Go.ChangeShapes Go.WideShapes Go.ChangeAt Go.RowKit

theorem try_own : ownKnob Try.prog.godebug = none := by kernel_rfl
theorem try_laid : laidOutB Try.prog = true := by kernel_rfl

theorem wf8 {n : Int} (h : (Lit.int .u8 n).wf = true) : 0 ≤ n ∧ n ≤ 255 := by
  simp only [Lit.wf, Bool.and_eq_true, decide_eq_true_eq] at h
  exact h
theorem wf16 {n : Int} (h : (Lit.int .u16 n).wf = true) : 0 ≤ n ∧ n ≤ 65535 := by
  simp only [Lit.wf, Bool.and_eq_true, decide_eq_true_eq] at h
  exact h

abbrev sh8 : Sh := .int .u8
abbrev sh16 : Sh := .int .u16
abbrev shPast : Sh := .cons sh8 (.cons (.arr 3 sh16) (.cons (.slice sh8) .nil))

theorem tv8 {l : List AV} (h : TV sh8 l) : ∃ n, (0 ≤ n ∧ n ≤ 255) ∧ l = [.fl (.int .u8 n)] := by
  obtain ⟨n, hn, rfl⟩ := tvK h
  exact ⟨n, wf8 hn, rfl⟩
theorem tv16 {l : List AV} (h : TV sh16 l) : ∃ n, (0 ≤ n ∧ n ≤ 65535) ∧ l = [.fl (.int .u16 n)] := by
  obtain ⟨n, hn, rfl⟩ := tvK h
  exact ⟨n, wf16 hn, rfl⟩
theorem tvA3 {l : List AV} (h : TV (.arr 3 sh16) l) : ∃ a b c, ((0 ≤ a ∧ a ≤ 65535) ∧ (0 ≤ b ∧ b ≤ 65535) ∧ (0 ≤ c ∧ c ≤ 65535)) ∧ l = [.fl (.int .u16 a), .fl (.int .u16 b), .fl (.int .u16 c)] := by
  obtain ⟨els, hl, he, rfl⟩ := tvA h
  match els, hl with
  | [x, y, z], _ =>
    obtain ⟨a, ha, rfl⟩ := tv16 (he x (by simp))
    obtain ⟨b, hb, rfl⟩ := tv16 (he y (by simp))
    obtain ⟨c, hc, rfl⟩ := tv16 (he z (by simp))
    exact ⟨a, b, c, ⟨ha, hb, hc⟩, rfl⟩
theorem tvA4 {l : List AV} (h : TV (.arr 4 sh16) l) : ∃ a b c d, ((0 ≤ a ∧ a ≤ 65535) ∧ (0 ≤ b ∧ b ≤ 65535) ∧ (0 ≤ c ∧ c ≤ 65535) ∧ (0 ≤ d ∧ d ≤ 65535)) ∧ l = [.fl (.int .u16 a), .fl (.int .u16 b), .fl (.int .u16 c), .fl (.int .u16 d)] := by
  obtain ⟨els, hl, he, rfl⟩ := tvA h
  match els, hl with
  | [x, y, z, w], _ =>
    obtain ⟨a, ha, rfl⟩ := tv16 (he x (by simp))
    obtain ⟨b, hb, rfl⟩ := tv16 (he y (by simp))
    obtain ⟨c, hc, rfl⟩ := tv16 (he z (by simp))
    obtain ⟨d, hd, rfl⟩ := tv16 (he w (by simp))
    exact ⟨a, b, c, d, ⟨ha, hb, hc, hd⟩, rfl⟩
theorem tvPast {l : List AV} (h : TV shPast l) : ∃ (kd a b c : Int) (taken : List (List AV)), ((0 ≤ kd ∧ kd ≤ 255) ∧ (0 ≤ a ∧ a ≤ 65535) ∧ (0 ≤ b ∧ b ≤ 65535) ∧ (0 ≤ c ∧ c ≤ 65535)) ∧ (taken.length ≤ maxLen ∧ ∀ el ∈ taken, TV sh8 el) ∧ l = [.fl (.int .u8 kd), .fl (.int .u16 a), .fl (.int .u16 b), .fl (.int .u16 c), .sl taken false] := by
  obtain ⟨_, _, h1, k1, rfl⟩ := tvC h
  obtain ⟨_, _, h2, k2, rfl⟩ := tvC k1
  obtain ⟨_, _, h3, k3, rfl⟩ := tvC k2
  obtain rfl := tvN k3
  obtain ⟨kd, hk, rfl⟩ := tv8 h1
  obtain ⟨a, b, c, hh, rfl⟩ := tvA3 h2
  obtain ⟨els, hl, he, rfl⟩ := tvL h3
  exact ⟨kd, a, b, c, els, ⟨hk, hh⟩, ⟨hl, he⟩, rfl⟩
end Go.Proofs.Ytmkaeohmdcoanaa
