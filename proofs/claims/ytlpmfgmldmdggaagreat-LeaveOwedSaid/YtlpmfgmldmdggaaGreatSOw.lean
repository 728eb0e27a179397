/-
  The statement LeaveOwed. No condition.
-/
import Derived.Test.YtlpmfgmldmdggaaGreatO1
import Derived.Test.YtlpmfgmldmdggaaGreatO6
open Go Go.RM
namespace Go.Proofs.YtlpmfgmldmdggaaGreat
open Go.ChangeShapes Go.WideShapes Go.ChangeAt Go.RowKit
theorem trod_third {H : Type} {P : Program} {t0 t1 t2 : TypeId} {ts : List TypeId} {ds gs : List (DataW H)} {x : DataW H} (hz : (DataW.weightsEach P ([t0, t1, t2] ++ ts) (ds ++ gs)).all (· ≤ reachBytes) = true) (hx : ds[2]? = some x) : ∀ n ∈ x.weights P t2, n ≤ reachBytes := fun n hn => by
  have hj : (ds ++ gs)[2]? = some x := by rw [List.getElem?_append_left (List.getElem?_eq_some_iff.1 hx).1]; exact hx
  simpa using List.all_eq_true.1 hz _ (DataW.weights_mem_each (j := 2) (t := t2) rfl hj n hn)
theorem tvRows {T : List (List (List AV))} (h : ∀ l ∈ T, (l.length ≤ maxLen ∧ l.length * Tryz.prog.bytesOf 3 ≤ reachBytes) ∧ ∀ el ∈ l, TV Fk el) : ∃ R : List (List Int), (∀ l ∈ R, l.length ≤ maxLen ∧ l.length * 8 ≤ 140737488355328) ∧ (T.map fun l => [AV.sl l false]) = R.map eT := by
  have hb : Tryz.prog.bytesOf 3 = 8 := by kernel_rfl
  rw [hb] at h
  induction T with
  | nil => exact ⟨[], ⟨(fun l hl => nomatch hl), rfl⟩⟩
  | cons l T ih =>
    obtain ⟨R, hR, e⟩ := ih fun k hk => h k (List.mem_cons_of_mem _ hk)
    obtain ⟨⟨h1, h2⟩, h3⟩ := h l (by simp)
    obtain ⟨m, _, rfl⟩ := Ei (e := eI) (P := fun _ => True) fun el hel => by
      obtain ⟨n, _, hn⟩ := Fv (h3 el hel)
      exact ⟨n, trivial, hn⟩
    rw [List.length_map] at h1 h2
    refine ⟨m :: R, ⟨fun k hk => ?_, ?_⟩⟩
    · rcases List.mem_cons.1 hk with rfl | hk
      · unfold reachBytes at h2
        exact ⟨h1, by omega⟩
      · exact hR k hk
    · rw [List.map_cons, List.map_cons, e]
set_option maxRecDepth 100000 in
theorem owed_lifted (os : Os) (started : os.Started) (H : Type) (enc : TypeId × Value → H) :
    ReturnsInHanded {} Tryz.checked os 5 .any (Rows.leaveOwedSpec.pre6 enc Tryz.prog Tryz.f5 Rows.leaveOwedRow.domain false) (Rows.leaveOwedSpec.post enc Tryz.prog Tryz.f5 false true false false) := by
  refine returnsInHanded_of_change_sized (C := Tryz.checked) HK started (by kernel_rfl) Tryz.func5
    (ChangeSpec.witness6 (enc := enc) (C := Tryz.checked) false ⟨#[], #[.agg #[.slice none 0 0, .slice none 0 0, .int .i64 0], .agg #[.int .i64 0, .int .i64 0, .int .i64 0], .slice none 0 0], []⟩ 8 (by kernel_rfl) (by kernel_rfl) (by kernel_rfl) (by kernel_rfl)) ?_
  intro W base args ds gs before hval hW hcnd hz _
  refine FZ (P := Tryz.prog) F0 (tb := 4) (by rw [Tryz.params5]; kernel_rfl) rfl Tryz.underlying4 rfl (fun ds h => by rw [Tryz.params5] at h; match ds, h with | [_, _, _], _ => rfl) hW ?_
  obtain ⟨p, q, hA, _⟩ := hW
  rw [Tryz.params5] at hA hz hval
  refine pure_callsG (T := TT) (one := false) rU iD K1 rfl (fun γ H' hs => args_three (d := 40) (s0 := Hg) (s1 := shPln) (by kernel_rfl) (by kernel_rfl) hA (fun j t v h1 h2 => hval j t v (by simpa using h1) (by simpa using h2))
    (fun v x q' hv hx ht => rows_arg (d := 40) Tryz.underlying47 Tryz.underlying36 (by kernel_rfl) (by kernel_rfl) (by kernel_rfl) (hval 2 47 v rfl (by simpa using hv)) ht (trod_third hz hx)) γ H' hs) fun ws hws => ?_
  obtain ⟨_, _, _, rfl, ⟨_, h1, rfl⟩, ⟨_, h2, rfl⟩, T, h3, h4, h5⟩ := hws
  obtain rfl := (List.cons.inj h3).1
  obtain ⟨c, hc, rfl⟩ := J6 h1
  obtain ⟨pl, rfl⟩ := tvPln h2
  obtain ⟨R, hR, e⟩ := tvRows h5
  have hl : R.length = T.length := by
    have := congrArg List.length e
    rw [List.length_map, List.length_map] at this
    exact this.symm
  rw [e]
  exact owedL_c c hc pl R false ⟨by omega, fun l hl => (hR l hl).1⟩ fun l hl => (hR l hl).2
theorem owed_holds : Rows.LeaveOwedSaid :=
  OpenClaim.holds_of_wide 5 Tryz.f5 rfl rfl rfl rfl rfl rfl rfl ⟨rfl, rfl, rfl, rfl, rfl⟩ rfl rfl rfl rfl rfl (by kernel_rfl) Tryz.func5 (by kernel_rfl)
    (of_decide_eq_true (by kernel_rfl)) (by unfold Func.isWrapper; first | (rw [if_pos (by decide +kernel)]; kernel_rfl) | (rw [if_neg (by decide +kernel)]; exact ⟨rfl, rfl⟩))
    (fun os started H enc _ => owed_lifted os started H enc)
end Go.Proofs.YtlpmfgmldmdggaaGreat
