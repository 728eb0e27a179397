/-
  The abstract machine: how its values and its heap stand to the model's. Lemmas alone; no condition.
-/
import Derived.Test.YtmkaeohmdcoanaaR1
namespace Go.RM

/-! ### The trie -/

namespace Tr
variable {α : Type}

theorem get_leaf (i : Nat) : (Tr.leaf : Tr α).get i = none := rfl
theorem get_node (l r : Tr α) (v : Option α) (i : Nat) :
    (Tr.node l v r).get i = cond (Nat.beq i 0) v (cond (Nat.beq (Nat.mod i 2) 1) (l.get (Nat.div i 2)) (r.get (Nat.pred (Nat.div i 2)))) := rfl

theorem beq_eq (a b : Nat) : Nat.beq a b = decide (a = b) := by
  cases h : Nat.beq a b
  · exact (decide_eq_false (fun e => by subst e; simp at h)).symm
  · exact (decide_eq_true (Nat.eq_of_beq_eq_true h)).symm

theorem cond3 {β : Type} (i : Nat) (a b c : β) : cond (Nat.beq i 0) a (cond (Nat.beq (Nat.mod i 2) 1) b c) = if i = 0 then a else if i % 2 = 1 then b else c := by
  rw [beq_eq, beq_eq, show Nat.mod i 2 = i % 2 from rfl]
  by_cases h0 : i = 0 <;> by_cases h1 : i % 2 = 1 <;> simp [h0, h1]

theorem get_node' (l r : Tr α) (v : Option α) (i : Nat) :
    (Tr.node l v r).get i = if i = 0 then v else if i % 2 = 1 then l.get (i / 2) else r.get (i / 2 - 1) := by
  rw [get_node, cond3]
  rfl

theorem lone_succ (x : α) (f i : Nat) : lone x (f + 1) i = if i = 0 then .node .leaf (some x) .leaf else if i % 2 = 1 then .node (lone x f (i / 2)) none .leaf else .node .leaf none (lone x f (i / 2 - 1)) :=
  (cond3 i _ _ _ : _)

theorem set_leaf (x : α) (i : Nat) : (Tr.leaf : Tr α).set i x = lone x (i + 1) i := rfl

theorem set_node (l r : Tr α) (v : Option α) (i : Nat) (x : α) :
    (Tr.node l v r).set i x = if i = 0 then .node l (some x) r else if i % 2 = 1 then .node (l.set (i / 2) x) v r else .node l v (r.set (i / 2 - 1) x) :=
  (cond3 i _ _ _ : _)

theorem get_lone (x : α) : ∀ (f i j : Nat), i < f → (lone x f i).get j = if j = i then some x else none := by
  intro f
  induction f with
  | zero => intro i j h; omega
  | succ f ih =>
    intro i j h
    rw [lone_succ]
    by_cases h0 : i = 0
    · subst h0
      simp only [if_true, get_node', get_leaf]
      split
      · rfl
      · split <;> rfl
    · rw [if_neg h0]
      by_cases h1 : i % 2 = 1
      · rw [if_pos h1, get_node', ih (i / 2) (j / 2) (by omega), get_leaf]
        by_cases hj : j = i
        · subst hj; rw [if_neg h0, if_pos h1, if_pos rfl, if_pos rfl]
        · rw [if_neg hj]
          split
          · rfl
          · split
            · rw [if_neg (by omega)]
            · rfl
      · rw [if_neg h1, get_node', ih (i / 2 - 1) (j / 2 - 1) (by omega), get_leaf]
        by_cases hj : j = i
        · subst hj; rw [if_neg h0, if_neg h1, if_pos rfl, if_pos rfl]
        · rw [if_neg hj]
          split
          · rfl
          · split
            · rfl
            · rw [if_neg (by omega)]

theorem get_set (t : Tr α) (i j : Nat) (x : α) : (t.set i x).get j = if j = i then some x else t.get j := by
  induction t generalizing i j with
  | leaf => rw [set_leaf, get_lone x (i + 1) i j (by omega), get_leaf]
  | node l v r ihl ihr =>
    rw [set_node]
    by_cases h0 : i = 0
    · subst h0
      rw [if_pos rfl, get_node', get_node']
      by_cases hj : j = 0
      · simp [hj]
      · simp [hj]
    · rw [if_neg h0]
      by_cases h1 : i % 2 = 1
      · rw [if_pos h1, get_node', get_node', ihl]
        by_cases hj : j = i
        · subst hj; simp [h0, h1]
        · rw [if_neg hj]
          by_cases hj0 : j = 0
          · simp [hj0]
          · by_cases hj1 : j % 2 = 1
            · simp only [hj0, hj1, if_false, if_true]; rw [if_neg (by omega)]
            · simp only [hj0, hj1, if_false]
      · rw [if_neg h1, get_node', get_node', ihr]
        by_cases hj : j = i
        · subst hj; simp [h0, h1]
        · rw [if_neg hj]
          by_cases hj0 : j = 0
          · simp [hj0]
          · by_cases hj1 : j % 2 = 1
            · simp only [hj0, hj1, if_false, if_true]
            · simp only [hj0, hj1, if_false]; rw [if_neg (by omega)]

theorem get_set_same (t : Tr α) (i : Nat) (x : α) : (t.set i x).get i = some x := by rw [get_set, if_pos rfl]
theorem get_set_ne (t : Tr α) {i j : Nat} (x : α) (h : j ≠ i) : (t.set i x).get j = t.get j := by rw [get_set, if_neg h]
end Tr

theorem Hp.get_push (h : Hp) (b : ABlk) (k : Nat) : (h.push b).get k = if k = h.n then some b else h.get k := Tr.get_set _ _ _ _
theorem Hp.get_put (h : Hp) (i : Nat) (b : ABlk) (k : Nat) : (h.put i b).get k = if k = i then some b else h.get k := Tr.get_set _ _ _ _

abbrev Getter := Nat → Option ABlk

def upd (g : Getter) (k : Nat) (b : ABlk) : Getter := fun i => if i = k then some b else g i

theorem Hp.get_push_fun (h : Hp) (b : ABlk) : (h.push b).get = upd h.get h.n b := funext fun k => Hp.get_push h b k
theorem Hp.get_put_fun (h : Hp) (i : Nat) (b : ABlk) : (h.put i b).get = upd h.get i b := funext fun k => Hp.get_put h i b k

/-- An effect, a new block being numbered n. -/
def Eff.on (n : Nat) (g : Getter) : Eff → Getter
  | .none => g
  | .new b => upd g n b
  | .put k b => upd g k b
  | .app k b => upd (upd g k .dead) n b

theorem Hp.get_app (h : Hp) (e : Eff) : (h.app e).get = e.on h.n h.get := by
  cases e with
  | none => rfl
  | new b => exact Hp.get_push_fun h b
  | put k b => exact Hp.get_put_fun h k b
  | app k b => show ((h.put k .dead).push b).get = _; rw [Hp.get_push_fun, Hp.get_put_fun]; rfl

/-! ### Where the abstract blocks lie -/

structure Gm where
  loc : Nat → Option (Nat × Nat)
  cap : Nat → Nat
  B : Nat

inductive VR (γ : Gm) : Value → Value → Prop
  | flat {v : Value} (h : flat1 v = true) : VR γ v v
  | ptr {k o b d : Nat} (h : γ.loc k = some (b, d)) : VR γ (.pointer (some ⟨k, o, none⟩)) (.pointer (some ⟨b, d + o, none⟩))
  | slice {k o b d n c c' : Nat} (h : γ.loc k = some (b, d)) (hn : n ≤ c') (ht : c = n → c' = n) (hl : c = n + 1 → o = 0 ∧ c' = γ.cap k) :
      VR γ (.slice (some ⟨k, o, none⟩) n c) (.slice (some ⟨b, d + o, none⟩) n c')
  | slice0 {k o c c' : Nat} {a' : Addr} (h0 : c ≠ 1) (ht : c = 0 → c' = 0) : VR γ (.slice (some ⟨k, o, none⟩) 0 c) (.slice (some a') 0 c')
  | map {k b : Nat} (h : γ.loc k = some (b, 0)) : VR γ (.map (some k)) (.map (some b))
  | func {f : FuncId} {fs fs' cs cs' : Array Value} (h1 : fs.size = fs'.size) (h2 : cs.size = cs'.size)
      (hf : ∀ i (a : i < fs.size) (b : i < fs'.size), VR γ fs[i] fs'[i]) (hc : ∀ i (a : i < cs.size) (b : i < cs'.size), VR γ cs[i] cs'[i]) :
      VR γ (.func (.func f) fs cs) (.func (.func f) fs' cs')
  | yield {l b : Nat} (h : γ.loc l = some (b, 0)) : VR γ (.func (.yield l) #[] #[]) (.func (.yield b) #[] #[])
  | agg {cs cs' : Array Value} (h1 : cs.size = cs'.size) (hc : ∀ i (a : i < cs.size) (b : i < cs'.size), VR γ cs[i] cs'[i]) : VR γ (.agg cs) (.agg cs')
  | tuple {cs cs' : Array Value} (h1 : cs.size = cs'.size) (hc : ∀ i (a : i < cs.size) (b : i < cs'.size), VR γ cs[i] cs'[i]) : VR γ (.tuple cs) (.tuple cs')

/-- γ' knows all that γ knows. -/
structure Gm.Le (γ γ' : Gm) : Prop where
  loc : ∀ k x, γ.loc k = some x → γ'.loc k = some x
  cap : ∀ k x, γ.loc k = some x → γ'.cap k = γ.cap k
  B : γ'.B = γ.B

theorem Gm.Le.refl (γ : Gm) : γ.Le γ := ⟨fun _ _ h => h, fun _ _ _ => rfl, rfl⟩
theorem Gm.Le.trans {a b c : Gm} (h : a.Le b) (k : b.Le c) : a.Le c :=
  ⟨fun i x hx => k.loc i x (h.loc i x hx), fun i x hx => (k.cap i x (h.loc i x hx)).trans (h.cap i x hx), k.B.trans h.B⟩

theorem VR.mono {γ γ' : Gm} (hle : γ.Le γ') {v v' : Value} (h : VR γ v v') : VR γ' v v' := by
  induction h with
  | flat h => exact .flat h
  | ptr h => exact .ptr (hle.loc _ _ h)
  | slice h hn ht hl => exact .slice (hle.loc _ _ h) hn ht (fun e => ⟨(hl e).1, (hl e).2.trans (hle.cap _ _ h).symm⟩)
  | slice0 h0 ht => exact .slice0 h0 ht
  | map h => exact .map (hle.loc _ _ h)
  | func h1 h2 _ _ ih1 ih2 => exact .func h1 h2 ih1 ih2
  | yield h => exact .yield (hle.loc _ _ h)
  | agg h1 _ ih => exact .agg h1 ih
  | tuple h1 _ ih => exact .tuple h1 ih

/-- Lists of related values. -/
def VRL (γ : Gm) (l l' : List Value) : Prop := l.length = l'.length ∧ ∀ (i : Nat) (v v' : Value), l[i]? = some v → l'[i]? = some v' → VR γ v v'

theorem VRL.nil (γ : Gm) : VRL γ [] [] := ⟨rfl, by simp⟩
theorem VRL.cons {γ : Gm} {v v' : Value} {l l' : List Value} (h : VR γ v v') (t : VRL γ l l') : VRL γ (v :: l) (v' :: l') :=
  ⟨by simp [t.1], fun i a a' ha ha' => by
    cases i with
    | zero => simp at ha ha'; subst ha; subst ha'; exact h
    | succ i => exact t.2 i a a' (by simpa using ha) (by simpa using ha')⟩
theorem VRL.mono {γ γ' : Gm} (hle : γ.Le γ') {l l' : List Value} (h : VRL γ l l') : VRL γ' l l' := ⟨h.1, fun i v v' a b => (h.2 i v v' a b).mono hle⟩
theorem VRL.append {γ : Gm} {a a' b b' : List Value} (h : VRL γ a a') (k : VRL γ b b') : VRL γ (a ++ b) (a' ++ b') := by
  refine ⟨by simp [h.1, k.1], fun i v v' hv hv' => ?_⟩
  by_cases hi : i < a.length
  · rw [List.getElem?_append_left hi] at hv
    rw [List.getElem?_append_left (by rw [← h.1]; exact hi)] at hv'
    exact h.2 i v v' hv hv'
  · rw [List.getElem?_append_right (by omega)] at hv
    rw [List.getElem?_append_right (by rw [← h.1]; omega), ← h.1] at hv'
    exact k.2 _ v v' hv hv'
theorem VRL.take {γ : Gm} {a a' : List Value} (h : VRL γ a a') (n : Nat) : VRL γ (a.take n) (a'.take n) := by
  refine ⟨by simp [h.1], fun i v v' hv hv' => ?_⟩
  have := List.getElem?_eq_some_iff.1 hv
  obtain ⟨hi, _⟩ := this
  simp at hi
  rw [List.getElem?_take_of_lt (by omega)] at hv hv'
  exact h.2 i v v' hv hv'
theorem VRL.drop {γ : Gm} {a a' : List Value} (h : VRL γ a a') (n : Nat) : VRL γ (a.drop n) (a'.drop n) := by
  refine ⟨by simp [h.1], fun i v v' hv hv' => ?_⟩
  rw [List.getElem?_drop] at hv hv'
  exact h.2 _ v v' hv hv'
theorem VRL.splice {γ : Gm} {a a' b b' : List Value} (h : VRL γ a a') (k : VRL γ b b') (o : Nat) : VRL γ (splice a b o) (splice a' b' o) := by
  unfold RM.splice
  rw [← k.1]
  exact ((h.take o).append k).append (h.drop _)
theorem VRL.get {γ : Gm} {l l' : List Value} (h : VRL γ l l') {i : Nat} {v : Value} (hv : l[i]? = some v) : ∃ v', l'[i]? = some v' ∧ VR γ v v' := by
  have hi : i < l.length := (List.getElem?_eq_some_iff.1 hv).1
  have hi' : i < l'.length := by rw [← h.1]; exact hi
  exact ⟨l'[i], List.getElem?_eq_getElem hi', h.2 i v _ hv (List.getElem?_eq_getElem hi')⟩

theorem VRL.of_arr {γ : Gm} {cs cs' : Array Value} (h1 : cs.size = cs'.size) (hc : ∀ i (a : i < cs.size) (b : i < cs'.size), VR γ cs[i] cs'[i]) : VRL γ cs.toList cs'.toList := by
  refine ⟨by simpa using h1, fun i v v' hv hv' => ?_⟩
  obtain ⟨hi, e⟩ := List.getElem?_eq_some_iff.1 hv
  obtain ⟨hi', e'⟩ := List.getElem?_eq_some_iff.1 hv'
  subst e; subst e'
  exact hc i (by simpa using hi) (by simpa using hi')

theorem VRL.arr {γ : Gm} {cs cs' : Array Value} (h : VRL γ cs.toList cs'.toList) : cs.size = cs'.size ∧ ∀ i (a : i < cs.size) (b : i < cs'.size), VR γ cs[i] cs'[i] :=
  ⟨by simpa using h.1, fun i a b => h.2 i _ _ (by simp [a]) (by simp [b])⟩

theorem VR.agg_list {γ : Gm} {l l' : List Value} (h : VRL γ l l') : VR γ (.agg l.toArray) (.agg l'.toArray) :=
  have h' := VRL.arr (cs := l.toArray) (cs' := l'.toArray) (by simpa using h)
  .agg h'.1 h'.2

theorem VR.tuple_list {γ : Gm} {l l' : List Value} (h : VRL γ l l') : VR γ (.tuple l.toArray) (.tuple l'.toArray) :=
  have h' := VRL.arr (cs := l.toArray) (cs' := l'.toArray) (by simpa using h)
  .tuple h'.1 h'.2

theorem VR.undef (γ : Gm) : VR γ undef undef := .tuple rfl (fun i a _ => absurd a (by simp))

theorem VR.flat1_eq {γ : Gm} {v v' : Value} (h : VR γ v v') (hf : flat1 v = true) : v' = v := by
  cases h <;> first | rfl | simp [flat1] at hf

theorem VRL.flat_eq {γ : Gm} : ∀ {l l' : List Value}, VRL γ l l' → l.all flat1 = true → l' = l
  | [], [], _, _ => rfl
  | [], _ :: _, h, _ => by simp [VRL] at h
  | _ :: _, [], h, _ => by simp [VRL] at h
  | v :: l, v' :: l', h, hf => by
    simp only [List.all_cons, Bool.and_eq_true] at hf
    have h1 := VR.flat1_eq (h.2 0 v v' rfl rfl) hf.1
    have h2 : VRL γ l l' := ⟨by simpa using h.1, fun i a a' x y => h.2 (i + 1) a a' (by simpa using x) (by simpa using y)⟩
    rw [h1, VRL.flat_eq h2 hf.2]

theorem VR.flat_eq {γ : Gm} {v v' : Value} (h : VR γ v v') (hf : RM.flat v = true) : v' = v := by
  cases h with
  | flat => rfl
  | agg h1 hc =>
    rename_i cs cs'
    have := VRL.flat_eq (VRL.of_arr h1 hc) (by simpa [RM.flat] using hf)
    rw [Array.toList_inj.1 this]
  | tuple h1 hc =>
    rename_i cs cs'
    have h0 : cs.size = 0 := by simpa [RM.flat] using hf
    have e1 : cs = #[] := Array.eq_empty_of_size_eq_zero h0
    have e2 : cs' = #[] := Array.eq_empty_of_size_eq_zero (by omega)
    rw [e1, e2]
  | _ => simp [RM.flat, flat1] at hf

theorem VR.of_flat {γ : Gm} {v : Value} (hf : RM.flat v = true) : VR γ v v := by
  cases v with
  | agg cs =>
    refine .agg rfl fun i a _ => .flat ?_
    exact List.all_eq_true.1 (show cs.toList.all flat1 = true from hf) _ (by simp)
  | tuple cs =>
    have h0 : cs = #[] := by simpa [RM.flat] using hf
    subst h0
    exact VR.undef γ
  | _ => exact .flat hf

theorem VRL.of_flat {γ : Gm} {l : List Value} (hf : l.all flat1 = true) : VRL γ l l := by
  refine ⟨rfl, fun i v v' a b => ?_⟩
  rw [a] at b
  cases b
  exact .flat (List.all_eq_true.1 hf v (List.mem_of_getElem? a))

theorem VR.cells {γ : Gm} {v v' : Value} (h : VR γ v v') : VRL γ v.cells.toList v'.cells.toList := by
  have one : ∀ {x x' : Value}, VR γ x x' → VRL γ [x] [x'] := fun h => .cons h (.nil γ)
  cases h with
  | agg h1 hc => exact VRL.of_arr h1 hc
  | tuple h1 hc => exact one (.tuple h1 hc)
  | flat h => cases v <;> first | exact one (.flat h) | simp [flat1] at h
  | ptr h => exact one (.ptr h)
  | slice h hn ht hl => exact one (.slice h hn ht hl)
  | slice0 h0 ht => exact one (.slice0 h0 ht)
  | map h => exact one (.map h)
  | func a b c d => exact one (.func a b c d)
  | yield h => exact one (.yield h)

theorem VR.oneCell {γ : Gm} {v v' : Value} (h : VR γ v v') (ho : RM.oneCell v = true) : v'.oneCell' = true := by
  cases h with
  | flat h => cases v <;> first | rfl | simp [flat1] at h
  | agg => simp [RM.oneCell] at ho
  | tuple => simp [RM.oneCell] at ho
  | _ => rfl

theorem VRL.oneCell {γ : Gm} {l l' : List Value} (h : VRL γ l l') (ho : l.all RM.oneCell = true) : ∀ u ∈ l', u.oneCell' = true := by
  intro u hu
  obtain ⟨i, hi, e⟩ := List.getElem_of_mem hu
  have hi2 : i < l.length := by rw [h.1]; exact hi
  have h1 := h.2 i l[i] u (List.getElem?_eq_getElem hi2) (by rw [List.getElem?_eq_getElem hi, e])
  exact h1.oneCell (List.all_eq_true.1 ho _ (List.getElem_mem hi2))

end Go.RM
