/-
  The statement AirMore: with a further report no range is wider, as long as there are truths; what must, or cannot be, stays so. No condition.
-/
import Derived.Test.YtichbhmnhkegiaaGreatX5
import Derived.Test.YtichbhmnhkegiaaGreatK21
import Derived.SizedLaws
import Derived.ChangeSame
namespace Go.Proofs.YtichbhmnhkegiaaGreat
open Go Go.RM Go.ChangeShapes Go.WideShapes Go.ChangeAt Go.RowKit
theorem slice_len {H : Type} {enc : TypeId × Value → H} {W : World} {base : Nat} {spare : Nat → Bool} {held : Bool} {fuel : Nat} {t e : TypeId} {a : Option Addr} {len cap : Nat} {x : DataW H × List MemPlace} (hu : Tryz.prog.underlying t = some (.slice e))
    (h : DataW.trod enc Tryz.prog W base spare held fuel t [.slice a len cap] = some x) : len = 0 ∨ ∃ elems sp, x.1 = .slice elems sp ∧ elems.length = len := by
  rcases DataW.trod_slice hu h with ⟨h1, _⟩ | ⟨a', len', cap', elems, rest, n, _, h1, h2, _, _, _, h3, _⟩
  · have h1 : [Value.slice a len cap] = [Value.slice none 0 0] := h1
    cases h1
    exact .inl rfl
  · have h1 : [Value.slice a len cap] = [Value.slice (some a') len' cap'] := h1
    cases h1
    exact .inr ⟨elems.map (·.1), rest.map (·.1), (Prod.ext_iff.1 h2).1, by rw [List.length_map, h3]⟩
theorem trod_second {H : Type} {enc : TypeId × Value → H} {P : Program} {W : World} {base : Nat} {spare : Nat → Bool} {held : Bool} {t0 t1 t2 : TypeId} {vs : List Value} {ds : List (DataW H)} {ps : List MemPlace} (h : DataW.TrodAll enc P W base spare held [t0, t1, t2] vs ds ps) :
    ∃ v d p, vs[1]? = some v ∧ ds[1]? = some d ∧ DataW.Trod enc P W base spare held t1 v d p := by
  match vs, ds, h with
  | v0 :: v1 :: vs, d0 :: d1 :: ds, ⟨_, _, _, ⟨_, _, h, _⟩, _⟩ => exact ⟨v1, d1, _, rfl, rfl, h⟩
  | [_], _ :: _, ⟨_, _, _, h, _⟩ => simp [DataW.TrodAll] at h
theorem told_len {H : Type} {enc : TypeId × Value → H} {W : World} {base : Nat} {spare : Nat → Bool} {held : Bool} {vs : Array Value} {a : Option Addr} {len cap : Nat} {d : DataW H} {p : List MemPlace} (h : DataW.Trod enc Tryz.prog W base spare held 51 (.agg vs) d p) (hv : vs.toList[5]? = some (.slice a len cap)) (hw : ∀ n ∈ d.weights Tryz.prog 51, n ≤ reachBytes) : len * 24 ≤ reachBytes := by
  obtain ⟨fuel, h⟩ := h
  obtain ⟨y0, y1, n, hx, hl, h0, h1⟩ := trod_struct2 Tryz.underlying51 h
  have hc : Tryz.prog.cellsOf 39 = 1 := by kernel_rfl
  have hd : (((Value.agg vs).cells.toList.drop 5).take 1) = [.slice a len cap] := by
    show (vs.toList.drop 5).take 1 = _
    obtain ⟨h5, e5⟩ := List.getElem?_eq_some_iff.1 hv
    rw [List.drop_eq_getElem_cons h5, e5]; rfl
  dsimp only at h1
  rw [hc, hd] at h1
  rcases slice_len Tryz.underlying39 h1 with h7 | ⟨elems, sp, h7, h8⟩
  · omega
  · obtain ⟨rfl, _⟩ := Prod.mk.inj hx
    have hb : Tryz.prog.bytesOf 64 = 24 := by kernel_rfl
    have := hw ((elems.length + sp.length) * Tryz.prog.bytesOf 64) (by
      simp only [DataW.weights, Tryz.underlying51]
      rw [h7]
      simp [DataW.weights, Tryz.underlying39, DataW.weightsEach])
    rw [hb, h8] at this
    omega
set_option maxRecDepth 100000 in
theorem more_lifted (os : Os) (started : os.Started) (H : Type) (enc : TypeId × Value → H) :
    ReturnsInHanded {} Tryz.checked os 11 .any (Rows.airMoreSpec.pre6 enc Tryz.prog Tryz.f11 Rows.airMoreRow.domain false) (Rows.airMoreSpec.post enc Tryz.prog Tryz.f11 false true false false) := by
  refine returnsInHanded_of_change_sized (C := Tryz.checked) nL started (by kernel_rfl) Tryz.func11
    (ChangeSpec.witness6 (enc := enc) (C := Tryz.checked) false ⟨#[], #[.agg #[.slice none 0 0, .int .i64 0, .int .i64 0, .int .i64 0, .int .i64 0], .agg #[.int .i64 0, .int .i64 0, .int .i64 0, .int .i64 0, .int .i64 0, .slice none 0 0], .agg #[.int .i64 0, .int .i64 0, .bool false, .bool false, .int .u16 0, .int .u16 0]], []⟩ 8 (by kernel_rfl) (by kernel_rfl) (by kernel_rfl) (by kernel_rfl)) ?_
  intro W base args ds gs before hval hW hcnd hz _
  refine kS (P := Tryz.prog) kT (tb := 4) (by rw [Tryz.params11]; kernel_rfl) rfl Tryz.underlying4 rfl (fun ds h => by rw [Tryz.params11] at h; match ds, h with | [_, _, _], _ => rfl) hW ?_
  obtain ⟨p, q, hA, _⟩ := hW
  refine pure_callsW (T := TT) (one := false) we kF w5 rfl (d := 40) (ss := [iT, II, shFurther]) (by rw [Tryz.params11]; kernel_rfl) hA (fun j t v h1 h2 => hval j t v (by simpa using h1) (by simpa using h2)) fun ws hws hrel => ?_
  match ws, hws with
  | [_, _, _], ⟨⟨_, h1, rfl⟩, ⟨_, h2, rfl⟩, ⟨_, h3, rfl⟩, _⟩ =>
    obtain ⟨s, hs, rfl⟩ := jY h1
    obtain ⟨n, rs, hr, rfl⟩ := Lx h2
    obtain ⟨r, a, b, ⟨ha, hb⟩, rfl⟩ := tvFurther h3
    refine mores_c s hs n rs false ?_ r a b ha hb
    obtain ⟨γ, H', us, v1, d1⟩ := hrel
    have hlt : 1 < us.length := by rw [← d1.1]; show 1 < 3; decide
    have hu : us[1]? = some us[1] := List.getElem?_eq_getElem hlt
    obtain ⟨x, hx, hv⟩ := v1.get hu
    obtain ⟨vs, a', len, cap, rfl, h4, h5⟩ := ag_len (i := 5) (d1.2 1 _ _ rfl hu) hv rfl
    rw [List.length_map] at h5
    rw [Tryz.params11] at hA hz
    obtain ⟨v2, d2, p2, hv2, hd2, ht⟩ := trod_second hA
    rw [hv2] at hx
    cases hx
    have := told_len ht h4 fun m hm => by
      have hj : (ds ++ gs)[1]? = some d2 := by rw [List.getElem?_append_left (List.getElem?_eq_some_iff.1 hd2).1]; exact hd2
      simpa using List.all_eq_true.1 hz _ (DataW.weights_mem_each (j := 1) (t := 51) rfl hj m hm)
    unfold reachBytes at this
    omega
theorem more_holds : Rows.AirMoreSaid :=
  OpenClaim.holds_of_wide 11 Tryz.f11 rfl rfl rfl rfl rfl rfl rfl ⟨rfl, rfl, rfl, rfl, rfl⟩ rfl rfl rfl rfl rfl (by kernel_rfl) Tryz.func11 (by kernel_rfl)
    (of_decide_eq_true (by kernel_rfl)) (by unfold Func.isWrapper; first | (rw [if_pos (by decide +kernel)]; kernel_rfl) | (rw [if_neg (by decide +kernel)]; exact ⟨rfl, rfl⟩))
    (fun os started H enc _ => more_lifted os started H enc)
end Go.Proofs.YtichbhmnhkegiaaGreat
