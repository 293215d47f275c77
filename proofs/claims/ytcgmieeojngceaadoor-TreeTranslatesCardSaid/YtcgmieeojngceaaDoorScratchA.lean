/- For TreeTranslates: Maps of this dump: keys that are strings and arrays of strings, zero values. No condition. -/
import Derived.Test.YtcgmieeojngceaaDoorMaps
import Derived.Test.YtcgmieeojngceaaDoorPTreeTranslatesx0
import Derived.Lib.Hide
namespace Go.Proofs.YtcgmieeojngceaaDoor.PTreeTranslates
open Go.RowKit Go.Proofs.YtcgmieeojngceaaDoorW.PrintWords Go.Proofs.YtcgmieeojngceaaDoorW.PrintLast Go.Proofs.YtcgmieeojngceaaDoorW.PrintMore
set_option linter.unusedVariables false
set_option linter.unusedSimpArgs false
abbrev E1 (s : ByteArray) : Value := .string s
abbrev E2 (p : ByteArray × ByteArray) : Value := .agg #[.string p.1, .string p.2]
abbrev E3 (p : ByteArray × ByteArray × ByteArray) : Value := .agg #[.string p.1, .string p.2.1, .string p.2.2]
abbrev VB (b : Bool) : Value := .bool b
abbrev VI (n : Int) : Value := .int .i64 n
theorem E1_inj : ∀ x y, E1 x = E1 y → x = y := fun x y h => by injection h
theorem E2_inj : ∀ x y, E2 x = E2 y → x = y := fun x y h => by
  obtain ⟨a, b⟩ := x
  obtain ⟨c, d⟩ := y
  simp [E2] at h
  simp [h]
theorem E3_inj : ∀ x y, E3 x = E3 y → x = y := fun x y h => by
  obtain ⟨a, b, u⟩ := x
  obtain ⟨c, d, v⟩ := y
  simp [E3] at h
  simp [h]
theorem tm_laid : laidOutB Tryd.prog = true := by kernel_rfl
theorem tm_k1 : Maps.Keyed Tryd.prog 9 := Maps.string_keyed Tryd.underlying9
theorem tm_k2 : Maps.Keyed Tryd.prog 56 := Maps.Keyed.of_law (deep_law_laid tm_laid (m := 2) (by omega) (Nat.le_of_ble_eq_true (by kernel_rfl)) (by kernel_rfl) (by kernel_rfl))
theorem tm_k3 : Maps.Keyed Tryd.prog 60 := Maps.Keyed.of_law (deep_law_laid tm_laid (m := 2) (by omega) (Nat.le_of_ble_eq_true (by kernel_rfl)) (by kernel_rfl) (by kernel_rfl))
theorem tm_size : ∃ m, Tryd.prog.types.size = m + 1 := by
  have : 0 < Tryd.prog.types.size := Nat.le_of_ble_eq_true (by kernel_rfl)
  exact ⟨Tryd.prog.types.size - 1, by omega⟩
theorem tm_q1 (s : ByteArray) (h : s.size ≤ maxLen) : ∃ q, keyOf Tryd.prog 9 (E1 s) = some q := ⟨_, Go.WideMaps.keyOf_string_mk Tryd.underlying9 h⟩
theorem tm_q2 (p : ByteArray × ByteArray) (h1 : p.1.size ≤ maxLen) (h2 : p.2.size ≤ maxLen) : ∃ q, keyOf Tryd.prog 56 (E2 p) = some q := by
  obtain ⟨m, hm⟩ := tm_size
  have := Mp.key_array (P := Tryd.prog) (kt := 56) (e := 9) (n := 2) Tryd.underlying56 Tryd.underlying9 (by kernel_rfl) (by kernel_rfl) (by kernel_rfl) m hm [p.1, p.2] rfl (by
    intro x hx
    simp at hx
    rcases hx with rfl | rfl <;> assumption)
  simpa using this
theorem tm_q3 (p : ByteArray × ByteArray × ByteArray) (h1 : p.1.size ≤ maxLen) (h2 : p.2.1.size ≤ maxLen) (h3 : p.2.2.size ≤ maxLen) : ∃ q, keyOf Tryd.prog 60 (E3 p) = some q := by
  obtain ⟨m, hm⟩ := tm_size
  have := Mp.key_array (P := Tryd.prog) (kt := 60) (e := 9) (n := 3) Tryd.underlying60 Tryd.underlying9 (by kernel_rfl) (by kernel_rfl) (by kernel_rfl) m hm [p.1, p.2.1, p.2.2] rfl (by
    intro x hx
    simp at hx
    rcases hx with rfl | rfl | rfl <;> assumption)
  simpa using this
theorem tm_z3 (w : World) : (zeroValue 3).run Tryd.prog w = .ok (VI 0) w := by kernel_rfl
theorem tm_z4 (w : World) : (zeroValue 4).run Tryd.prog w = .ok (VB false) w := by kernel_rfl
end Go.Proofs.YtcgmieeojngceaaDoor.PTreeTranslates
