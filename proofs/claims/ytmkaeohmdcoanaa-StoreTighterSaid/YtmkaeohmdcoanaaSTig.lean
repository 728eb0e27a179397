/-
  The statement StoreTighter: with a further count no range of Level is wider, no kind lasts for fewer days, needs a greater cargo, or has to be rationed earlier, as long as there are truths. No condition.
-/
import Derived.Test.YtmkaeohmdcoanaaK2
import Derived.Test.YtmkaeohmdcoanaaA2
import Derived.SizedLaws
namespace Go.Proofs.Ytmkaeohmdcoanaa
open Go Go.RM Go.ChangeShapes Go.WideShapes Go.ChangeAt Go.RowKit

theorem slice_len {H : Type} {enc : TypeId × Value → H} {W : World} {base : Nat} {spare : Nat → Bool} {held : Bool} {t e : TypeId} {a : Option Addr} {len cap : Nat} {d : DataW H} {p : List MemPlace} (hu : Try.prog.underlying t = some (.slice e))
    (h : DataW.Trod enc Try.prog W base spare held t (.slice a len cap) d p) : len = 0 ∨ ∃ elems sp, d = .slice elems sp ∧ elems.length = len := by
  obtain ⟨fuel, h⟩ := h
  rcases DataW.trod_slice hu h with ⟨h1, _⟩ | ⟨a', len', cap', elems, rest, n, _, h1, h2, _, _, _, h3, _⟩
  · have h1 : [Value.slice a len cap] = [Value.slice none 0 0] := h1
    cases h1
    exact .inl rfl
  · have h1 : [Value.slice a len cap] = [Value.slice (some a') len' cap'] := h1
    cases h1
    exact .inr ⟨elems.map (·.1), rest.map (·.1), (Prod.ext_iff.1 h2).1, by rw [List.length_map, h3]⟩

theorem trod_second {H : Type} {enc : TypeId × Value → H} {P : Program} {W : World} {base : Nat} {spare : Nat → Bool} {held : Bool} {t0 t1 t2 : TypeId} {vs : List Value} {ds : List (DataW H)} {ps : List MemPlace} (h : DataW.TrodAll enc P W base spare held [t0, t1, t2] vs ds ps) :
    ∃ v d p, vs[1]? = some v ∧ ds[1]? = some d ∧ DataW.Trod enc P W base spare held t1 v d p := by
  match vs, ds, h with
  | v0 :: v1 :: vs, d0 :: d1 :: ds, ⟨_, _, _, ⟨_, _, h, _⟩, _⟩ => exact ⟨v1, d1, _, rfl, rfl, h⟩
  | [_], _ :: _, ⟨_, _, _, h, _⟩ => simp [DataW.TrodAll] at h

set_option maxRecDepth 100000 in
theorem tighter_lifted (os : Os) (started : os.Started) (H : Type) (enc : TypeId × Value → H) :
    ReturnsInHanded {} Try.checked os 15 .any (Rows.storeTighterSpec.pre6 enc Try.prog Try.f15 Rows.storeTighterRow.domain false) (Rows.storeTighterSpec.post enc Try.prog Try.f15 false true false false) := by
  refine returnsInHanded_of_change_sized (C := Try.checked) try_own started (by kernel_rfl) Try.func15
    (ChangeSpec.witness6 (enc := enc) (C := Try.checked) false ⟨#[], #[.agg #[.slice none 0 0, .slice none 0 0, .slice none 0 0], .slice none 0 0, .agg #[.int .i64 0, .int .i64 0, .int .i64 0, .int .i64 0, .int .u8 0, .int .u8 0]], []⟩ 8 (by kernel_rfl) (by kernel_rfl) (by kernel_rfl) (by kernel_rfl)) ?_
  intro W base args ds gs before hval hW hcnd hz _
  refine law_post (P := Try.prog) try_laid (tb := 4) (by rw [Try.params15]; kernel_rfl) rfl Try.underlying4 rfl (fun ds h => by rw [Try.params15] at h; match ds, h with | [_, _, _], _ => rfl) hW ?_
  obtain ⟨p, q, hA, _⟩ := hW
  refine pure_callsL (T := TT) (one := true) tt_ok tt_mixed xs_TB rfl (d := 40) (ss := [shStores, .slice shCount, shFurther]) (by rw [Try.params15]; kernel_rfl) hA (fun j t v h1 h2 => hval j t v (by simpa using h1) (by simpa using h2)) fun ws hws hlen => ?_
  match ws, hws with
  | [_, _, _], ⟨⟨_, h1, rfl⟩, ⟨_, h2, rfl⟩, ⟨_, h3, rfl⟩, _⟩ =>
    obtain ⟨s, hs, rfl⟩ := tvStores h1
    obtain ⟨l, hl, rfl⟩ := tvCounts h2
    obtain ⟨c, x, y, ⟨hx, hy⟩, rfl⟩ := tvFurther h3
    have hl2 : l.length ≤ 4398046511103 := by
      obtain ⟨a, len, cap, h4, h5⟩ := hlen 1 _ _ rfl
      rw [List.length_map] at h5
      rw [Try.params15] at hA hz
      obtain ⟨v1, d1, p1, hv, hd, ht⟩ := trod_second hA
      rw [hv] at h4
      cases h4
      rcases slice_len Try.underlying38 ht with h7 | ⟨elems, sp, h7, h8⟩
      · omega
      · subst h7
        have := sized_slice hz (j := 1) rfl (by rw [List.getElem?_append_left (List.getElem?_eq_some_iff.1 hd).1]; exact hd) Try.underlying38
        have hb : Try.checked.prog.bytesOf 72 = 32 := by kernel_rfl
        rw [hb, h8] at this
        unfold reachBytes at this
        omega
    exact tighter_c s hs l hl2 c x y hx hy

theorem tighter_holds : Rows.StoreTighterSaid :=
  OpenClaim.holds_of_wide 15 Try.f15 rfl rfl rfl rfl rfl rfl rfl ⟨rfl, rfl, rfl, rfl, rfl⟩ rfl rfl rfl rfl rfl (by kernel_rfl) Try.func15 (by kernel_rfl)
    (of_decide_eq_true (by kernel_rfl)) (by unfold Func.isWrapper; first | (rw [if_pos (by decide +kernel)]; kernel_rfl) | (rw [if_neg (by decide +kernel)]; exact ⟨rfl, rfl⟩))
    (fun os started H enc _ => tighter_lifted os started H enc)
end Go.Proofs.Ytmkaeohmdcoanaa
