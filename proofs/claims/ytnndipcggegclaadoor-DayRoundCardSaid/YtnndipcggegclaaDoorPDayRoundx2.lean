-- Made for this claim by a program of this session (xprint.py over the kit's printing program); Lean checks it.
import Derived.Test.YtnndipcggegclaaDoorPDayRoundx0
import Derived.Test.YtnndipcggegclaaDoorPDayRoundx1
namespace Go.Proofs.YtnndipcggegclaaDoor.PDayRound
open Go.RowKit Go.Proofs.YtnndipcggegclaaDoorW.PrintWords Go.Proofs.YtnndipcggegclaaDoorW.PrintLast Go.Proofs.YtnndipcggegclaaDoorW.PrintMore
attribute [local go_sem] max2_int min2_int max_two min_two max_three min_three max_four min_four   -- for this text's walks alone
set_option linter.unusedVariables false
set_option linter.unusedSimpArgs false

/-! ### conf_dayOf: function 33 -/
mutual
def conf_dayOf.j0 : Nat → Int → Int → Int → Bool → Option (Int × Bool)
  | 0, _, _, _, _ => none
  | k + 1, x0, x1, x2, x34 => if x34 = true then (some (0, false)) else ((conf_before.f x0).bind fun t115 => (conf_dayOf.l0 k x0 x1 (wrap64 ((wrap64 (t115 + x2)) - 1)) 1))
def conf_dayOf.l0 : Nat → Int → Int → Int → Int → Option (Int × Bool)
  | 0, _, _, _, _ => none
  | k + 1, x0, x1, x8, x9 => if x9 < x1 then ((conf_monthDays.f x0 x9).bind fun t116 => (conf_dayOf.l0 k x0 x1 (wrap64 (x8 + t116)) (wrap64 (x9 + 1)))) else (some (x8, true))
end
def conf_dayOf.f (k : Nat) (a0 : Int) (a1 : Int) (a2 : Int) : Option (Int × Bool) := if a0 < 1970 then (conf_dayOf.j0 k a0 a1 a2 true) else (if a0 > 2199 then (conf_dayOf.j0 k a0 a1 a2 true) else (if a1 < 1 then (conf_dayOf.j0 k a0 a1 a2 true) else (if a1 > 12 then (conf_dayOf.j0 k a0 a1 a2 true) else (if a2 < 1 then (conf_dayOf.j0 k a0 a1 a2 true) else ((conf_monthDays.f a0 a1).bind fun t114 => (conf_dayOf.j0 k a0 a1 a2 (decide (a2 > t114))))))))
theorem conf_dayOf.mono_l : ∀ k, (∀ y0 y1 y2 y3, LeO (conf_dayOf.j0 k y0 y1 y2 y3) (conf_dayOf.j0 (k + 1) y0 y1 y2 y3)) ∧ (∀ y0 y1 y2 y3, LeO (conf_dayOf.l0 k y0 y1 y2 y3) (conf_dayOf.l0 (k + 1) y0 y1 y2 y3))
  | 0 => ⟨fun _ _ _ _ r h => by simp [conf_dayOf.j0] at h, fun _ _ _ _ r h => by simp [conf_dayOf.l0] at h⟩
  | k + 1 => by
    obtain ⟨ih0, ih1⟩ := conf_dayOf.mono_l k
    refine ⟨?_, ?_⟩
    · intro y0 y1 y2 y3
      unfold conf_dayOf.j0
      repeat' first
      | (with_reducible exact ih0 _ _ _ _)
      | (with_reducible exact ih1 _ _ _ _)
      | (with_reducible exact LeO.refl _)
      | (with_reducible exact LeO.none _)
      | (with_reducible refine LeO.ite ?_ ?_)
      | (with_reducible refine LeO.bind ?_ (fun _ => ?_))
      | exact ih0 _ _ _ _
      | exact ih1 _ _ _ _
      | exact LeO.none _
      | refine LeO.ite ?_ ?_
      | refine LeO.bind ?_ (fun _ => ?_)
    · intro y0 y1 y2 y3
      unfold conf_dayOf.l0
      repeat' first
      | (with_reducible exact ih0 _ _ _ _)
      | (with_reducible exact ih1 _ _ _ _)
      | (with_reducible exact LeO.refl _)
      | (with_reducible exact LeO.none _)
      | (with_reducible refine LeO.ite ?_ ?_)
      | (with_reducible refine LeO.bind ?_ (fun _ => ?_))
      | exact ih0 _ _ _ _
      | exact ih1 _ _ _ _
      | exact LeO.none _
      | refine LeO.ite ?_ ?_
      | refine LeO.bind ?_ (fun _ => ?_)
theorem conf_dayOf.mono : ∀ a0 a1 a2 k, LeO (conf_dayOf.f k a0 a1 a2) (conf_dayOf.f (k + 1) a0 a1 a2) := by
  intro a0 a1 a2 k
  obtain ⟨ih0, ih1⟩ := conf_dayOf.mono_l k
  unfold conf_dayOf.f
  repeat' first
      | (with_reducible exact ih0 _ _ _ _)
      | (with_reducible exact ih1 _ _ _ _)
      | (with_reducible exact LeO.refl _)
      | (with_reducible exact LeO.none _)
      | (with_reducible refine LeO.ite ?_ ?_)
      | (with_reducible refine LeO.bind ?_ (fun _ => ?_))
      | exact ih0 _ _ _ _
      | exact ih1 _ _ _ _
      | exact LeO.none _
      | refine LeO.ite ?_ ?_
      | refine LeO.bind ?_ (fun _ => ?_)
set_option maxHeartbeats 8000000 in
set_option maxRecDepth 100000 in
theorem conf_dayOf.calls (k : Nat) (a0 : Int) (a1 : Int) (a2 : Int) (r1 : Int) (r2 : Bool) (w : World) (h : conf_dayOf.f k a0 a1 a2 = some (r1, r2)) :
    Calls Tryd.prog 33 #[.int .i64 a0, .int .i64 a1, .int .i64 a2] w fun e w' => e = .returned (.tuple #[.int .i64 r1, .bool r2]) ∧ Drawn0 w w' := by
  have H : (if a0 < 1970 then (conf_dayOf.j0 k a0 a1 a2 true) else (if a0 > 2199 then (conf_dayOf.j0 k a0 a1 a2 true) else (if a1 < 1 then (conf_dayOf.j0 k a0 a1 a2 true) else (if a1 > 12 then (conf_dayOf.j0 k a0 a1 a2 true) else (if a2 < 1 then (conf_dayOf.j0 k a0 a1 a2 true) else ((conf_monthDays.f a0 a1).bind fun t114 => (conf_dayOf.j0 k a0 a1 a2 (decide (a2 > t114))))))))) = some (r1, r2) := h
  clear h
  have HC4 := Aside0.mk H
  clear H
  go_enter Tryd.func33, Tryd.ntmps33
  go_upto_region 1 with (fail)
  go_cut [34] (fun v34 wc => ∃ (kq : Nat) (x34_3 : Bool), v34 = .bool x34_3 ∧ Aside0 (conf_dayOf.j0 kq a0 a1 a2 x34_3 = some (r1, r2)) ∧ Aside0 (kq ≤ k) ∧ Drawn0 w wc)
  case first =>
    have H := HC4.out
    clear HC4
    by_cases c5 : a0 < 1970
    · rw [if_pos c5] at H
      have c5b0 : decide (a0 < 1970) = true := decide_eq_true c5
      clear c5
      (first | rw [c5b0] | (simp only [i64_w, i32_w]; rw [c5b0]) | skip)
      have H' := Aside0.mk H
      clear H
      go_wp2
      go_meet
      case rel => exact ⟨_, (true), (by first | rfl | (simp; done) | (simp [*]; done)), H', ⟨by first | omega | exact Nat.le_refl _⟩, by repeat (first | exact Drawn0.refl _ | apply Drawn0.step)⟩
    · rw [if_neg c5] at H
      have c5b0 : decide (a0 < 1970) = false := decide_eq_false c5
      clear c5
      (first | rw [c5b0] | (simp only [i64_w, i32_w]; rw [c5b0]) | skip)
      by_cases c6 : a0 > 2199
      · rw [if_pos c6] at H
        have c6b0 : decide (2199 < a0) = true := decide_eq_true c6
        clear c6
        have H' := Aside0.mk H
        clear H
        go_wp2
        go_meet
        case rel => exact ⟨_, (true), (by first | rfl | (simp; done) | (simp [*]; done)), H', ⟨by first | omega | exact Nat.le_refl _⟩, by repeat (first | exact Drawn0.refl _ | apply Drawn0.step)⟩
      · rw [if_neg c6] at H
        have c6b0 : decide (2199 < a0) = false := decide_eq_false c6
        clear c6
        by_cases c7 : a1 < 1
        · rw [if_pos c7] at H
          have c7b0 : decide (a1 < 1) = true := decide_eq_true c7
          clear c7
          have H' := Aside0.mk H
          clear H
          go_wp2
          go_meet
          case rel => exact ⟨_, (true), (by first | rfl | (simp; done) | (simp [*]; done)), H', ⟨by first | omega | exact Nat.le_refl _⟩, by repeat (first | exact Drawn0.refl _ | apply Drawn0.step)⟩
        · rw [if_neg c7] at H
          have c7b0 : decide (a1 < 1) = false := decide_eq_false c7
          clear c7
          by_cases c8 : a1 > 12
          · rw [if_pos c8] at H
            have c8b0 : decide (12 < a1) = true := decide_eq_true c8
            clear c8
            have H' := Aside0.mk H
            clear H
            go_wp2
            go_meet
            case rel => exact ⟨_, (true), (by first | rfl | (simp; done) | (simp [*]; done)), H', ⟨by first | omega | exact Nat.le_refl _⟩, by repeat (first | exact Drawn0.refl _ | apply Drawn0.step)⟩
          · rw [if_neg c8] at H
            have c8b0 : decide (12 < a1) = false := decide_eq_false c8
            clear c8
            by_cases c9 : a2 < 1
            · rw [if_pos c9] at H
              have c9b0 : decide (a2 < 1) = true := decide_eq_true c9
              clear c9
              have H' := Aside0.mk H
              clear H
              go_wp2
              go_meet
              case rel => exact ⟨_, (true), (by first | rfl | (simp; done) | (simp [*]; done)), H', ⟨by first | omega | exact Nat.le_refl _⟩, by repeat (first | exact Drawn0.refl _ | apply Drawn0.step)⟩
            · rw [if_neg c9] at H
              have c9b0 : decide (a2 < 1) = false := decide_eq_false c9
              clear c9
              replace H := Option.bind_eq_some_iff.mp H
              obtain ⟨t114, A100, H⟩ := H
              replace H : (conf_dayOf.j0 k a0 a1 a2 (decide (a2 > t114))) = some (r1, r2) := H
              have A10 := Aside0.mk A100
              clear A100
              have H' := Aside0.mk H
              clear H
              go_wp2_with (first | (go_at_call 51; (with_reducible refine (conf_monthDays.calls a0 a1 t114 _ A10.out).mono ?_); rintro e w' ⟨rfl, ⟨nd, rfl⟩⟩))
              go_meet
              case rel => exact ⟨_, (decide (a2 > t114)), (by first | rfl | (simp; done) | (simp [*]; done)), H', ⟨by first | omega | exact Nat.le_refl _⟩, by repeat (first | exact Drawn0.refl _ | apply Drawn0.step)⟩
  case rest =>
    clear HC4
    try clear p2
    try clear c3
    try clear c5
    try clear c5b0
    try clear c6
    try clear c6b0
    try clear c7
    try clear c7b0
    try clear c8
    try clear c8b0
    try clear c9
    try clear c9b0
    obtain ⟨kq, x34_3, rfl, HA, HJ3, ⟨mc3, rfl⟩⟩ := hcut
    cases kq with
    | zero => exact absurd HA.out (by simp [conf_dayOf.j0])
    | succ kj3 =>
      have H := HA.out
      clear HA
      simp only [conf_dayOf.j0] at H
      by_cases c11 : x34_3 = true
      · subst c11
        have H1 : (some (0, false)) = some (r1, r2) := by rw [if_pos rfl] at H; exact H
        clear H
        have H := H1
        clear H1
        simp only [Option.some.injEq, Prod.mk.injEq] at H
        obtain ⟨rfl, rfl⟩ := H
        go_wp2
        go_ret2
        exact ⟨by first | rfl | (simp; done) | (simp [*]; done), by repeat (first | exact Drawn0.refl _ | apply Drawn0.step)⟩
      · replace c11 := Bool.eq_false_iff.mpr c11
        subst c11
        have H1 : ((conf_before.f a0).bind fun t115 => (conf_dayOf.l0 kj3 a0 a1 (wrap64 ((wrap64 (t115 + a2)) - 1)) 1)) = some (r1, r2) := by rw [if_neg (show ¬ (false = true) by decide)] at H; exact H
        clear H
        have H := H1
        clear H1
        replace H := Option.bind_eq_some_iff.mp H
        obtain ⟨t115, A120, H⟩ := H
        replace H : (conf_dayOf.l0 kj3 a0 a1 (wrap64 ((wrap64 (t115 + a2)) - 1)) 1) = some (r1, r2) := H
        have A12 := Aside0.mk A120
        clear A120
        have H' := Aside0.mk H
        clear H
        go_wp2_with (first | ((with_reducible refine gate_callee (f := 49) rfl ?_); refine goesL_ (some 36) rfl rfl Tryd.func49 (by kernel_rfl) rfl #[.int .i64 a0] rfl (by (try simp only [List.map_toArray, List.map_cons, List.map_nil]); first | done | rfl | (simp only [List.length_drop, List.length_take]; rfl)) ?_; (with_reducible refine (conf_before.calls a0 t115 _ A12.out).mono ?_); rintro e w' ⟨rfl, ⟨nd, rfl⟩⟩; refine ⟨_, rfl, ?_⟩))
        go_loopg [8, 9] kj3 (fun kq v8 v9 w' => ∃ (x8_2 : Int) (x9_2 : Int), v8 = .int .i64 x8_2 ∧ v9 = .int .i64 x9_2 ∧ Aside0 (conf_dayOf.l0 kq a0 a1 x8_2 x9_2 = some (r1, r2)) ∧ Aside0 (kq ≤ kj3) ∧ Drawn0 w w')
        case atStart => exact ⟨(wrap64 ((wrap64 (t115 + a2)) - 1)), (1), (by first | rfl | (simp; done) | (simp [*]; done)), (by first | rfl | (simp; done) | (simp [*]; done)), H', ⟨Nat.le_refl _⟩, by repeat (first | exact Drawn0.refl _ | apply Drawn0.step)⟩
        case round =>
          clear H'
          try clear c1
          try clear p2
          try clear c3
          try clear c4
          try clear c5
          try clear c5b0
          try clear c6
          try clear c6b0
          try clear p6
          try clear c7
          try clear c7b0
          try clear c8
          try clear c8b0
          try clear c9
          try clear c9b0
          try clear c11
          try clear p2
          obtain ⟨x8_2, x9_2, rfl, rfl, HA, HK2, ⟨m2, rfl⟩⟩ := hrel
          cases gk with
          | zero => exact absurd HA.out (by simp [conf_dayOf.l0])
          | succ k2 =>
            have H := HA.out
            clear HA
            simp only [conf_dayOf.l0] at H
            by_cases c13 : x9_2 < a1
            · rw [if_pos c13] at H
              have c13b0 : decide (x9_2 < a1) = true := decide_eq_true c13
              clear c13
              replace H := Option.bind_eq_some_iff.mp H
              obtain ⟨t116, A140, H⟩ := H
              replace H : (conf_dayOf.l0 k2 a0 a1 (wrap64 (x8_2 + t116)) (wrap64 (x9_2 + 1))) = some (r1, r2) := H
              have A14 := Aside0.mk A140
              clear A140
              have H' := Aside0.mk H
              clear H
              go_wp2_with (first | ((with_reducible refine gate_callee (f := 51) rfl ?_); refine goesL_ (some 48) rfl rfl Tryd.func51 (by kernel_rfl) rfl #[.int .i64 a0, .int .i64 x9_2] rfl (by (try simp only [List.map_toArray, List.map_cons, List.map_nil]); first | done | rfl | (simp only [List.length_drop, List.length_take]; rfl)) ?_; (with_reducible refine (conf_monthDays.calls a0 x9_2 t116 _ A14.out).mono ?_); rintro e w' ⟨rfl, ⟨nd, rfl⟩⟩; refine ⟨_, rfl, ?_⟩))
              go_roundg k2
              case measure => have := HJ3.out; have := HK2.out; omega
              case rel => exact ⟨(wrap64 (x8_2 + t116)), (wrap64 (x9_2 + 1)), (by first | rfl | (simp; done) | (simp [*]; done)), (by first | rfl | (simp; done) | (simp [*]; done)), H', ⟨by have := HJ3.out; have := HK2.out; omega⟩, by repeat (first | exact Drawn0.refl _ | apply Drawn0.step)⟩
            · rw [if_neg c13] at H
              have c13b0 : decide (x9_2 < a1) = false := decide_eq_false c13
              clear c13
              simp only [Option.some.injEq, Prod.mk.injEq] at H
              obtain ⟨rfl, rfl⟩ := H
              go_wp2
              go_ret2
              exact ⟨by first | rfl | (simp; done) | (simp [*]; done), by repeat (first | exact Drawn0.refl _ | apply Drawn0.step)⟩

/-! ### conf_DayOf: function 16 -/
def conf_DayOf.f (k : Nat) (a0 : Int) (a1 : Int) (a2 : Int) : Option (Int × Int) := (conf_dayOf.f k a0 a1 a2).bind fun bt117 => (if bt117.2 = true then (some (bt117.1, 0)) else (some (0, 2)))
theorem conf_DayOf.mono : ∀ a0 a1 a2 k, LeO (conf_DayOf.f k a0 a1 a2) (conf_DayOf.f (k + 1) a0 a1 a2) := by
  intro a0 a1 a2 k
  unfold conf_DayOf.f
  repeat' first
      | (with_reducible exact conf_dayOf.mono _ _ _ _)
      | (with_reducible exact LeO.refl _)
      | (with_reducible exact LeO.none _)
      | (with_reducible refine LeO.ite ?_ ?_)
      | (with_reducible refine LeO.bind ?_ (fun _ => ?_))
      | exact conf_dayOf.mono _ _ _ _
      | exact LeO.none _
      | refine LeO.ite ?_ ?_
      | refine LeO.bind ?_ (fun _ => ?_)
set_option maxHeartbeats 8000000 in
set_option maxRecDepth 100000 in
theorem conf_DayOf.calls (k : Nat) (a0 : Int) (a1 : Int) (a2 : Int) (r1 : Int) (r2 : Int) (w : World) (h : conf_DayOf.f k a0 a1 a2 = some (r1, r2)) :
    Calls Tryd.prog 16 #[.int .i64 a0, .int .i64 a1, .int .i64 a2] w fun e w' => e = .returned (.tuple #[.int .i64 r1, .int .i64 r2]) ∧ Drawn0 w w' := by
  have H : ((conf_dayOf.f k a0 a1 a2).bind fun bt117 => (if bt117.2 = true then (some (bt117.1, 0)) else (some (0, 2)))) = some (r1, r2) := h
  clear h
  replace H := Option.bind_eq_some_iff.mp H
  obtain ⟨⟨t117, t118⟩, A40, H⟩ := H
  replace H : (if t118 = true then (some (t117, 0)) else (some (0, 2))) = some (r1, r2) := H
  have A4 := Aside0.mk A40
  clear A40
  by_cases c5 : t118 = true
  · subst c5
    have H1 : (some (t117, 0)) = some (r1, r2) := by rw [if_pos rfl] at H; exact H
    clear H
    have H := H1
    clear H1
    simp only [Option.some.injEq, Prod.mk.injEq] at H
    obtain ⟨rfl, rfl⟩ := H
    go_enter Tryd.func16, Tryd.ntmps16
    go_wp2_with (first | ((with_reducible refine gate_callee (f := 33) rfl ?_); refine goesL_ (some 14) rfl rfl Tryd.func33 (by kernel_rfl) rfl #[.int .i64 a0, .int .i64 a1, .int .i64 a2] rfl (by (try simp only [List.map_toArray, List.map_cons, List.map_nil]); first | done | rfl | (simp only [List.length_drop, List.length_take]; rfl)) ?_; (with_reducible refine (conf_dayOf.calls k a0 a1 a2 t117 true _ A4.out).mono ?_); rintro e w' ⟨rfl, ⟨nd, rfl⟩⟩; refine ⟨_, rfl, ?_⟩))
    go_ret2
    exact ⟨by first | rfl | (simp; done) | (simp [*]; done), by repeat (first | exact Drawn0.refl _ | apply Drawn0.step)⟩
  · replace c5 := Bool.eq_false_iff.mpr c5
    subst c5
    have H1 : (some (0, 2)) = some (r1, r2) := by rw [if_neg (show ¬ (false = true) by decide)] at H; exact H
    clear H
    have H := H1
    clear H1
    simp only [Option.some.injEq, Prod.mk.injEq] at H
    obtain ⟨rfl, rfl⟩ := H
    go_enter Tryd.func16, Tryd.ntmps16
    go_wp2_with (first | ((with_reducible refine gate_callee (f := 33) rfl ?_); refine goesL_ (some 14) rfl rfl Tryd.func33 (by kernel_rfl) rfl #[.int .i64 a0, .int .i64 a1, .int .i64 a2] rfl (by (try simp only [List.map_toArray, List.map_cons, List.map_nil]); first | done | rfl | (simp only [List.length_drop, List.length_take]; rfl)) ?_; (with_reducible refine (conf_dayOf.calls k a0 a1 a2 t117 false _ A4.out).mono ?_); rintro e w' ⟨rfl, ⟨nd, rfl⟩⟩; refine ⟨_, rfl, ?_⟩))
    go_ret2
    exact ⟨by first | rfl | (simp; done) | (simp [*]; done), by repeat (first | exact Drawn0.refl _ | apply Drawn0.step)⟩

/-! ### conf_isDigit: function 31 -/
def conf_isDigit.f (a0 : Int) : Option (Bool) := if a0 ≥ 48 then (some (decide (a0 ≤ 57))) else (some false)
set_option maxHeartbeats 8000000 in
set_option maxRecDepth 100000 in
theorem conf_isDigit.calls (a0 : Int) (r : Bool) (w : World) (h : conf_isDigit.f a0 = some r) :
    Calls Tryd.prog 31 #[.int .u8 a0] w fun e w' => e = .returned (.bool r) ∧ Drawn0 w w' := by
  have H : (if a0 ≥ 48 then (some (decide (a0 ≤ 57))) else (some false)) = some r := h
  clear h
  by_cases c2 : a0 ≥ 48
  · rw [if_pos c2] at H
    have c2b0 : decide (48 ≤ a0) = true := decide_eq_true c2
    clear c2
    obtain rfl := Option.some.inj H
    go_enter Tryd.func31, Tryd.ntmps31
    go_wp2
    go_ret
    exact ⟨by first | rfl | (simp; done) | (simp [*]; done), by repeat (first | exact Drawn0.refl _ | apply Drawn0.step)⟩
  · rw [if_neg c2] at H
    have c2b0 : decide (48 ≤ a0) = false := decide_eq_false c2
    clear c2
    obtain rfl := Option.some.inj H
    go_enter Tryd.func31, Tryd.ntmps31
    go_wp2
    go_ret
    exact ⟨by first | rfl | (simp; done) | (simp [*]; done), by repeat (first | exact Drawn0.refl _ | apply Drawn0.step)⟩

/-! ### conf_ReadDay: function 14 -/
def rdAdd (i : Nat) (z : Int) : Int × Int × Int → Int × Int × Int
  | (a, b, c) => if i < 4 then (10 * a + z, b, c) else if i < 7 then (a, 10 * b + z, c) else (a, b, 10 * c + z)
def rdN (s : ByteArray) : Nat → Option (Int × Int × Int)
  | 0 => some (0, 0, 0)
  | i + 1 => (rdN s i).bind fun n => if i = 4 ∨ i = 7 then some n else if 48 ≤ bt s i ∧ bt s i ≤ 57 then some (rdAdd i (bt s i - 48) n) else none
def conf_ReadDay.f (k : Nat) (a0 : ByteArray) : Option (Int × Int) :=
  if a0.size = 10 ∧ bt a0 4 = 45 ∧ bt a0 7 = 45 then (match rdN a0 10 with
    | none => some (0, 8)
    | some (a, b, c) => conf_DayOf.f k a b c) else some (0, 8)
theorem conf_ReadDay.mono : ∀ a0 k, LeO (conf_ReadDay.f k a0) (conf_ReadDay.f (k + 1) a0) := by
  intro a0 k
  unfold conf_ReadDay.f
  by_cases c : a0.size = 10 ∧ bt a0 4 = 45 ∧ bt a0 7 = 45
  · rw [if_pos c, if_pos c]
    cases rdN a0 10 with
    | none => exact LeO.refl _
    | some n => obtain ⟨a, b, c⟩ := n; exact conf_DayOf.mono _ _ _ _
  · rw [if_neg c, if_neg c]; exact LeO.refl _
def B3 (n : Int × Int × Int) : Prop := (0 ≤ n.1 ∧ n.1 ≤ 9999) ∧ (0 ≤ n.2.1 ∧ n.2.1 ≤ 9999) ∧ (0 ≤ n.2.2 ∧ n.2.2 ≤ 9999)
def RdI (s : ByteArray) (g : Nat) (w0 wr : World) (i : Nat) : Prop := ∃ a b c : Int, rdN s i = some (a, b, c) ∧ wr.heap[g]? = some (.cells #[.int .i64 a, .int .i64 b, .int .i64 c] 72 (0, 0)) ∧ Below w0.heap.size w0 wr
theorem rdN_bound (s : ByteArray) : ∀ i a b c, rdN s i = some (a, b, c) → i ≤ 10 → 0 ≤ a ∧ a < 10 ^ i ∧ 0 ≤ b ∧ b < 10 ^ i ∧ 0 ≤ c ∧ c < 10 ^ i := by
  intro i
  induction i with
  | zero => intro a b c h _; simp [rdN] at h; obtain ⟨rfl, rfl, rfl⟩ := h; decide
  | succ i ih =>
    intro a b c h hi
    simp only [rdN] at h
    obtain ⟨⟨a', b', c'⟩, h1, h2⟩ := Option.bind_eq_some_iff.1 h
    have hh := ih a' b' c' h1 (by omega)
    have hp : (10 : Int) ^ (i + 1) = 10 * 10 ^ i := by rw [Int.pow_succ]; omega
    rw [hp]
    by_cases e : i = 4 ∨ i = 7
    · rw [if_pos e] at h2
      cases h2
      omega
    · rw [if_neg e] at h2
      by_cases d : 48 ≤ bt s i ∧ bt s i ≤ 57
      · rw [if_pos d] at h2
        injection h2 with h2
        unfold rdAdd at h2
        simp only [] at h2
        split at h2
        · cases h2; omega
        · split at h2
          · cases h2; omega
          · cases h2; omega
      · rw [if_neg d] at h2; cases h2
theorem rdN_step (s : ByteArray) (i : Nat) (a b c : Int) (h : rdN s i = some (a, b, c)) : rdN s (i + 1) = if i = 4 ∨ i = 7 then some (a, b, c) else if 48 ≤ bt s i ∧ bt s i ≤ 57 then some (rdAdd i (bt s i - 48) (a, b, c)) else none := by
  simp only [rdN]
  rw [h]
  rfl
theorem rdN_digit (s : ByteArray) (i : Nat) (a b c : Int) (h : rdN s i = some (a, b, c)) (hi : ¬ (i = 4 ∨ i = 7)) (hd : 48 ≤ bt s i ∧ bt s i ≤ 57) : rdN s (i + 1) = some (rdAdd i (bt s i - 48) (a, b, c)) := by
  rw [rdN_step s i a b c h, if_neg hi, if_pos hd]
theorem rdN_sign (s : ByteArray) (i : Nat) (a b c : Int) (h : rdN s i = some (a, b, c)) (hi : i = 4 ∨ i = 7) : rdN s (i + 1) = some (a, b, c) := by
  rw [rdN_step s i a b c h, if_pos hi]
theorem rdN_bad (s : ByteArray) (i : Nat) (a b c : Int) (h : rdN s i = some (a, b, c)) (hi : ¬ (i = 4 ∨ i = 7)) (hd : ¬ (48 ≤ bt s i ∧ bt s i ≤ 57)) : rdN s (i + 1) = none := by
  rw [rdN_step s i a b c h, if_neg hi, if_neg hd]
theorem rdN_none (s : ByteArray) (i : Nat) (hi : rdN s i = none) : ∀ j, i ≤ j → rdN s j = none := by
  intro j
  induction j with
  | zero => intro h; obtain rfl : i = 0 := by omega
            exact hi
  | succ j ih =>
    intro h
    rcases Nat.lt_or_ge j i with h1 | h1
    · obtain rfl : i = j + 1 := by omega
      exact hi
    · simp only [rdN, ih h1, Option.bind_none]
theorem heap_set3 {w : World} {g i : Nat} {t : TypeId} {cs : Array Value} {u : Value} (h : w.heap[g]? = some (.cells cs t (0, 0))) : (w.setCell ⟨g, i, none⟩ u).heap[g]? = some (.cells (cs.setIfInBounds i u) t (0, 0)) := by
  simp [World.setCell, Array.getElem?_modify, h]

set_option maxHeartbeats 8000000 in
set_option maxRecDepth 100000 in
theorem readday_any (k : Nat) (s : ByteArray) (r1 r2 : Int) (w : World) (hsz : s.size = 10) (h4 : bt s 4 = 45) (h7 : bt s 7 = 45) (h : conf_ReadDay.f k s = some (r1, r2)) :
    Calls Tryd.prog 14 #[.string s] w fun e w' => e = .returned (.tuple #[.int .i64 r1, .int .i64 r2]) ∧ Below w.heap.size w w' := by
  have hs1 : ((s.size : Int) != 10) = false := by rw [hsz]; rfl
  have hs2 : (s.size != 10) = false := by rw [hsz]; rfl
  have h4s : 4 < s.size := by omega
  have h7s : 7 < s.size := by omega
  have i4 : ((s[4]'h4s).toNat : Int) = bt s 4 := bt_at s 4 h4s
  have i7 : ((s[7]'h7s).toNat : Int) = bt s 7 := bt_at s 7 h7s
  have l4 : (4 : Int) < s.size := by omega
  have l7 : (7 : Int) < s.size := by omega
  have e4 : (bt s 4 != 45) = false := by rw [h4]; rfl
  have e7 : (bt s 7 != 45) = false := by rw [h7]; rfl
  have H := Aside0.mk h
  have Hz := Aside0.mk hsz
  have hp4 := h4
  have hp7 := h7
  clear h h4 h7 hsz
  go_enter Tryd.func14, Tryd.ntmps14
  go_wp2
  generalize hW : World.alloc _ _ = W
  have hI : Hid (RdI s w.heap.size w W 0) := by
    rw [← hW]
    exact ⟨0, 0, 0, rfl, heap_alloc_new w _, below_alloc (Below.refl _ _) _⟩
  go_loopw [5, 6] (fun c i wr => ∃ j : Nat, j ≤ 10 ∧ i = .int .i64 j ∧ c = .int .i64 (if j ≤ 4 then 0 else if j ≤ 7 then 1 else 2) ∧ Hid (RdI s w.heap.size w wr j)) (fun _ i _ => 10 - (intOf i).toNat)
  case atStart => exact ⟨0, by omega, rfl, rfl, hI⟩
  case round =>
    clear hI
    obtain ⟨j, hj, rfl, rfl, hI⟩ := hrel
    obtain ⟨a, b, c, hn, hg, hb⟩ := hI.out
    have hbd := rdN_bound s j a b c hn hj
    have HN := Aside0.mk hn
    have HG := Aside0.mk hg
    have HB := Aside0.mk hb
    have c0 : wr.cell? ⟨w.heap.size, 0, none⟩ = some (.int .i64 a) := by simp [World.cell?, hg]
    have c1 : wr.cell? ⟨w.heap.size, 1, none⟩ = some (.int .i64 b) := by simp [World.cell?, hg]
    have c2 : wr.cell? ⟨w.heap.size, 2, none⟩ = some (.int .i64 c) := by simp [World.cell?, hg]
    have f0 : wr.frozen? ⟨w.heap.size, 0, none⟩ = false := by simp [World.frozen?, hg]
    have f1 : wr.frozen? ⟨w.heap.size, 1, none⟩ = false := by simp [World.frozen?, hg]
    have f2 : wr.frozen? ⟨w.heap.size, 2, none⟩ = false := by simp [World.frozen?, hg]
    clear hn hg hb hI
    have hcase : j = 0 ∨ j = 1 ∨ j = 2 ∨ j = 3 ∨ j = 4 ∨ j = 5 ∨ j = 6 ∨ j = 7 ∨ j = 8 ∨ j = 9 ∨ j = 10 := by omega
    rcases hcase with rfl | rfl | rfl | rfl | rfl | rfl | rfl | rfl | rfl | rfl | rfl
    · rw [show ((0 : Nat) : Int) = 0 from rfl]
      simp only [show (if 0 ≤ 4 then (0 : Int) else if 0 ≤ 7 then 1 else 2) = 0 from rfl]
      have lt : (((0 : Int)) < (s.size : Int)) = True := eq_true (by rw [Hz.out]; decide)
      have lt2 : decide ((0 : Int) < (s.size : Int)) = true := decide_eq_true (by rw [Hz.out]; decide)
      have ix : ((s[0]'(by rw [Hz.out]; decide)).toNat : Int) = bt s 0 := bt_at s 0 (by show 0 < _; rw [Hz.out]; decide)
      have br := bt_range s 0
      by_cases hd : 48 ≤ bt s 0 ∧ bt s 0 ≤ 57
      · have hdf : conf_isDigit.f (bt s 0) = some true := by unfold conf_isDigit.f; rw [if_pos hd.1, decide_eq_true hd.2]
        have HDF := Aside0.mk hdf
        clear hdf
        obtain ⟨hd1, hd2⟩ := hd
        go_wp2_with (go_at_call 31; refine (conf_isDigit.calls (bt s 0) true _ HDF.out).mono ?_; rintro e w2 ⟨rfl, ⟨⟨nq, rfl⟩⟩⟩)
        go_region
        all_goals
          go_wp2
          go_roundw
          case rel => exact ⟨1, by omega, rfl, rfl, ⟨10 * a + (bt s 0 - 48), b, c, rdN_digit s 0 a b c HN.out (by decide) ⟨hd1, hd2⟩, heap_set3 HG.out, Below.setCell (pw_below_drewN HB.out nq).drew (Nat.le_refl _) _⟩⟩
          case measure => simp [intOf]
      · have hdf : conf_isDigit.f (bt s 0) = some false := by
          unfold conf_isDigit.f
          by_cases h48 : bt s 0 ≥ 48
          · rw [if_pos h48, decide_eq_false (fun h57 => hd ⟨h48, h57⟩)]
          · rw [if_neg h48]
        have HDF := Aside0.mk hdf
        have hq : r1 = 0 ∧ r2 = 8 := by
          have h := H.out
          unfold conf_ReadDay.f at h
          have hz : rdN s 10 = none := rdN_none s 1 (rdN_bad s 0 a b c HN.out (by decide) hd) 10 (by omega)
          rw [hz] at h
          by_cases cc : s.size = 10 ∧ bt s 4 = 45 ∧ bt s 7 = 45
          · rw [if_pos cc] at h; cases h; exact ⟨rfl, rfl⟩
          · rw [if_neg cc] at h; cases h; exact ⟨rfl, rfl⟩
        obtain ⟨rfl, rfl⟩ := hq
        clear hdf hd
        go_wp2_with (go_at_call 31; refine (conf_isDigit.calls (bt s 0) false _ HDF.out).mono ?_; rintro e w2 ⟨rfl, ⟨⟨nq, rfl⟩⟩⟩)
        go_ret2
        exact ⟨rfl, pw_below_drewN HB.out nq⟩
    · rw [show ((1 : Nat) : Int) = 1 from rfl]
      simp only [show (if 1 ≤ 4 then (0 : Int) else if 1 ≤ 7 then 1 else 2) = 0 from rfl]
      have lt : (((1 : Int)) < (s.size : Int)) = True := eq_true (by rw [Hz.out]; decide)
      have lt2 : decide ((1 : Int) < (s.size : Int)) = true := decide_eq_true (by rw [Hz.out]; decide)
      have ix : ((s[1]'(by rw [Hz.out]; decide)).toNat : Int) = bt s 1 := bt_at s 1 (by show 1 < _; rw [Hz.out]; decide)
      have br := bt_range s 1
      by_cases hd : 48 ≤ bt s 1 ∧ bt s 1 ≤ 57
      · have hdf : conf_isDigit.f (bt s 1) = some true := by unfold conf_isDigit.f; rw [if_pos hd.1, decide_eq_true hd.2]
        have HDF := Aside0.mk hdf
        clear hdf
        obtain ⟨hd1, hd2⟩ := hd
        go_wp2_with (go_at_call 31; refine (conf_isDigit.calls (bt s 1) true _ HDF.out).mono ?_; rintro e w2 ⟨rfl, ⟨⟨nq, rfl⟩⟩⟩)
        go_region
        all_goals
          go_wp2
          go_roundw
          case rel => exact ⟨2, by omega, rfl, rfl, ⟨10 * a + (bt s 1 - 48), b, c, rdN_digit s 1 a b c HN.out (by decide) ⟨hd1, hd2⟩, heap_set3 HG.out, Below.setCell (pw_below_drewN HB.out nq).drew (Nat.le_refl _) _⟩⟩
          case measure => simp [intOf]
      · have hdf : conf_isDigit.f (bt s 1) = some false := by
          unfold conf_isDigit.f
          by_cases h48 : bt s 1 ≥ 48
          · rw [if_pos h48, decide_eq_false (fun h57 => hd ⟨h48, h57⟩)]
          · rw [if_neg h48]
        have HDF := Aside0.mk hdf
        have hq : r1 = 0 ∧ r2 = 8 := by
          have h := H.out
          unfold conf_ReadDay.f at h
          have hz : rdN s 10 = none := rdN_none s 2 (rdN_bad s 1 a b c HN.out (by decide) hd) 10 (by omega)
          rw [hz] at h
          by_cases cc : s.size = 10 ∧ bt s 4 = 45 ∧ bt s 7 = 45
          · rw [if_pos cc] at h; cases h; exact ⟨rfl, rfl⟩
          · rw [if_neg cc] at h; cases h; exact ⟨rfl, rfl⟩
        obtain ⟨rfl, rfl⟩ := hq
        clear hdf hd
        go_wp2_with (go_at_call 31; refine (conf_isDigit.calls (bt s 1) false _ HDF.out).mono ?_; rintro e w2 ⟨rfl, ⟨⟨nq, rfl⟩⟩⟩)
        go_ret2
        exact ⟨rfl, pw_below_drewN HB.out nq⟩
    · rw [show ((2 : Nat) : Int) = 2 from rfl]
      simp only [show (if 2 ≤ 4 then (0 : Int) else if 2 ≤ 7 then 1 else 2) = 0 from rfl]
      have lt : (((2 : Int)) < (s.size : Int)) = True := eq_true (by rw [Hz.out]; decide)
      have lt2 : decide ((2 : Int) < (s.size : Int)) = true := decide_eq_true (by rw [Hz.out]; decide)
      have ix : ((s[2]'(by rw [Hz.out]; decide)).toNat : Int) = bt s 2 := bt_at s 2 (by show 2 < _; rw [Hz.out]; decide)
      have br := bt_range s 2
      by_cases hd : 48 ≤ bt s 2 ∧ bt s 2 ≤ 57
      · have hdf : conf_isDigit.f (bt s 2) = some true := by unfold conf_isDigit.f; rw [if_pos hd.1, decide_eq_true hd.2]
        have HDF := Aside0.mk hdf
        clear hdf
        obtain ⟨hd1, hd2⟩ := hd
        go_wp2_with (go_at_call 31; refine (conf_isDigit.calls (bt s 2) true _ HDF.out).mono ?_; rintro e w2 ⟨rfl, ⟨⟨nq, rfl⟩⟩⟩)
        go_region
        all_goals
          go_wp2
          go_roundw
          case rel => exact ⟨3, by omega, rfl, rfl, ⟨10 * a + (bt s 2 - 48), b, c, rdN_digit s 2 a b c HN.out (by decide) ⟨hd1, hd2⟩, heap_set3 HG.out, Below.setCell (pw_below_drewN HB.out nq).drew (Nat.le_refl _) _⟩⟩
          case measure => simp [intOf]
      · have hdf : conf_isDigit.f (bt s 2) = some false := by
          unfold conf_isDigit.f
          by_cases h48 : bt s 2 ≥ 48
          · rw [if_pos h48, decide_eq_false (fun h57 => hd ⟨h48, h57⟩)]
          · rw [if_neg h48]
        have HDF := Aside0.mk hdf
        have hq : r1 = 0 ∧ r2 = 8 := by
          have h := H.out
          unfold conf_ReadDay.f at h
          have hz : rdN s 10 = none := rdN_none s 3 (rdN_bad s 2 a b c HN.out (by decide) hd) 10 (by omega)
          rw [hz] at h
          by_cases cc : s.size = 10 ∧ bt s 4 = 45 ∧ bt s 7 = 45
          · rw [if_pos cc] at h; cases h; exact ⟨rfl, rfl⟩
          · rw [if_neg cc] at h; cases h; exact ⟨rfl, rfl⟩
        obtain ⟨rfl, rfl⟩ := hq
        clear hdf hd
        go_wp2_with (go_at_call 31; refine (conf_isDigit.calls (bt s 2) false _ HDF.out).mono ?_; rintro e w2 ⟨rfl, ⟨⟨nq, rfl⟩⟩⟩)
        go_ret2
        exact ⟨rfl, pw_below_drewN HB.out nq⟩
    · rw [show ((3 : Nat) : Int) = 3 from rfl]
      simp only [show (if 3 ≤ 4 then (0 : Int) else if 3 ≤ 7 then 1 else 2) = 0 from rfl]
      have lt : (((3 : Int)) < (s.size : Int)) = True := eq_true (by rw [Hz.out]; decide)
      have lt2 : decide ((3 : Int) < (s.size : Int)) = true := decide_eq_true (by rw [Hz.out]; decide)
      have ix : ((s[3]'(by rw [Hz.out]; decide)).toNat : Int) = bt s 3 := bt_at s 3 (by show 3 < _; rw [Hz.out]; decide)
      have br := bt_range s 3
      by_cases hd : 48 ≤ bt s 3 ∧ bt s 3 ≤ 57
      · have hdf : conf_isDigit.f (bt s 3) = some true := by unfold conf_isDigit.f; rw [if_pos hd.1, decide_eq_true hd.2]
        have HDF := Aside0.mk hdf
        clear hdf
        obtain ⟨hd1, hd2⟩ := hd
        go_wp2_with (go_at_call 31; refine (conf_isDigit.calls (bt s 3) true _ HDF.out).mono ?_; rintro e w2 ⟨rfl, ⟨⟨nq, rfl⟩⟩⟩)
        go_region
        all_goals
          go_wp2
          go_roundw
          case rel => exact ⟨4, by omega, rfl, rfl, ⟨10 * a + (bt s 3 - 48), b, c, rdN_digit s 3 a b c HN.out (by decide) ⟨hd1, hd2⟩, heap_set3 HG.out, Below.setCell (pw_below_drewN HB.out nq).drew (Nat.le_refl _) _⟩⟩
          case measure => simp [intOf]
      · have hdf : conf_isDigit.f (bt s 3) = some false := by
          unfold conf_isDigit.f
          by_cases h48 : bt s 3 ≥ 48
          · rw [if_pos h48, decide_eq_false (fun h57 => hd ⟨h48, h57⟩)]
          · rw [if_neg h48]
        have HDF := Aside0.mk hdf
        have hq : r1 = 0 ∧ r2 = 8 := by
          have h := H.out
          unfold conf_ReadDay.f at h
          have hz : rdN s 10 = none := rdN_none s 4 (rdN_bad s 3 a b c HN.out (by decide) hd) 10 (by omega)
          rw [hz] at h
          by_cases cc : s.size = 10 ∧ bt s 4 = 45 ∧ bt s 7 = 45
          · rw [if_pos cc] at h; cases h; exact ⟨rfl, rfl⟩
          · rw [if_neg cc] at h; cases h; exact ⟨rfl, rfl⟩
        obtain ⟨rfl, rfl⟩ := hq
        clear hdf hd
        go_wp2_with (go_at_call 31; refine (conf_isDigit.calls (bt s 3) false _ HDF.out).mono ?_; rintro e w2 ⟨rfl, ⟨⟨nq, rfl⟩⟩⟩)
        go_ret2
        exact ⟨rfl, pw_below_drewN HB.out nq⟩
    · rw [show ((4 : Nat) : Int) = 4 from rfl]
      simp only [show (if 4 ≤ 4 then (0 : Int) else if 4 ≤ 7 then 1 else 2) = 0 from rfl]
      have lt : (((4 : Int)) < (s.size : Int)) = True := eq_true (by rw [Hz.out]; decide)
      have lt2 : decide ((4 : Int) < (s.size : Int)) = true := decide_eq_true (by rw [Hz.out]; decide)
      go_wp2
      go_roundw
      case rel => exact ⟨5, by omega, rfl, rfl, ⟨a, b, c, rdN_sign s 4 a b c HN.out (by decide), HG.out, HB.out⟩⟩
      case measure => simp [intOf]
    · rw [show ((5 : Nat) : Int) = 5 from rfl]
      simp only [show (if 5 ≤ 4 then (0 : Int) else if 5 ≤ 7 then 1 else 2) = 1 from rfl]
      have lt : (((5 : Int)) < (s.size : Int)) = True := eq_true (by rw [Hz.out]; decide)
      have lt2 : decide ((5 : Int) < (s.size : Int)) = true := decide_eq_true (by rw [Hz.out]; decide)
      have ix : ((s[5]'(by rw [Hz.out]; decide)).toNat : Int) = bt s 5 := bt_at s 5 (by show 5 < _; rw [Hz.out]; decide)
      have br := bt_range s 5
      by_cases hd : 48 ≤ bt s 5 ∧ bt s 5 ≤ 57
      · have hdf : conf_isDigit.f (bt s 5) = some true := by unfold conf_isDigit.f; rw [if_pos hd.1, decide_eq_true hd.2]
        have HDF := Aside0.mk hdf
        clear hdf
        obtain ⟨hd1, hd2⟩ := hd
        go_wp2_with (go_at_call 31; refine (conf_isDigit.calls (bt s 5) true _ HDF.out).mono ?_; rintro e w2 ⟨rfl, ⟨⟨nq, rfl⟩⟩⟩)
        go_region
        all_goals
          go_wp2
          go_roundw
          case rel => exact ⟨6, by omega, rfl, rfl, ⟨a, 10 * b + (bt s 5 - 48), c, rdN_digit s 5 a b c HN.out (by decide) ⟨hd1, hd2⟩, heap_set3 HG.out, Below.setCell (pw_below_drewN HB.out nq).drew (Nat.le_refl _) _⟩⟩
          case measure => simp [intOf]
      · have hdf : conf_isDigit.f (bt s 5) = some false := by
          unfold conf_isDigit.f
          by_cases h48 : bt s 5 ≥ 48
          · rw [if_pos h48, decide_eq_false (fun h57 => hd ⟨h48, h57⟩)]
          · rw [if_neg h48]
        have HDF := Aside0.mk hdf
        have hq : r1 = 0 ∧ r2 = 8 := by
          have h := H.out
          unfold conf_ReadDay.f at h
          have hz : rdN s 10 = none := rdN_none s 6 (rdN_bad s 5 a b c HN.out (by decide) hd) 10 (by omega)
          rw [hz] at h
          by_cases cc : s.size = 10 ∧ bt s 4 = 45 ∧ bt s 7 = 45
          · rw [if_pos cc] at h; cases h; exact ⟨rfl, rfl⟩
          · rw [if_neg cc] at h; cases h; exact ⟨rfl, rfl⟩
        obtain ⟨rfl, rfl⟩ := hq
        clear hdf hd
        go_wp2_with (go_at_call 31; refine (conf_isDigit.calls (bt s 5) false _ HDF.out).mono ?_; rintro e w2 ⟨rfl, ⟨⟨nq, rfl⟩⟩⟩)
        go_ret2
        exact ⟨rfl, pw_below_drewN HB.out nq⟩
    · rw [show ((6 : Nat) : Int) = 6 from rfl]
      simp only [show (if 6 ≤ 4 then (0 : Int) else if 6 ≤ 7 then 1 else 2) = 1 from rfl]
      have lt : (((6 : Int)) < (s.size : Int)) = True := eq_true (by rw [Hz.out]; decide)
      have lt2 : decide ((6 : Int) < (s.size : Int)) = true := decide_eq_true (by rw [Hz.out]; decide)
      have ix : ((s[6]'(by rw [Hz.out]; decide)).toNat : Int) = bt s 6 := bt_at s 6 (by show 6 < _; rw [Hz.out]; decide)
      have br := bt_range s 6
      by_cases hd : 48 ≤ bt s 6 ∧ bt s 6 ≤ 57
      · have hdf : conf_isDigit.f (bt s 6) = some true := by unfold conf_isDigit.f; rw [if_pos hd.1, decide_eq_true hd.2]
        have HDF := Aside0.mk hdf
        clear hdf
        obtain ⟨hd1, hd2⟩ := hd
        go_wp2_with (go_at_call 31; refine (conf_isDigit.calls (bt s 6) true _ HDF.out).mono ?_; rintro e w2 ⟨rfl, ⟨⟨nq, rfl⟩⟩⟩)
        go_region
        all_goals
          go_wp2
          go_roundw
          case rel => exact ⟨7, by omega, rfl, rfl, ⟨a, 10 * b + (bt s 6 - 48), c, rdN_digit s 6 a b c HN.out (by decide) ⟨hd1, hd2⟩, heap_set3 HG.out, Below.setCell (pw_below_drewN HB.out nq).drew (Nat.le_refl _) _⟩⟩
          case measure => simp [intOf]
      · have hdf : conf_isDigit.f (bt s 6) = some false := by
          unfold conf_isDigit.f
          by_cases h48 : bt s 6 ≥ 48
          · rw [if_pos h48, decide_eq_false (fun h57 => hd ⟨h48, h57⟩)]
          · rw [if_neg h48]
        have HDF := Aside0.mk hdf
        have hq : r1 = 0 ∧ r2 = 8 := by
          have h := H.out
          unfold conf_ReadDay.f at h
          have hz : rdN s 10 = none := rdN_none s 7 (rdN_bad s 6 a b c HN.out (by decide) hd) 10 (by omega)
          rw [hz] at h
          by_cases cc : s.size = 10 ∧ bt s 4 = 45 ∧ bt s 7 = 45
          · rw [if_pos cc] at h; cases h; exact ⟨rfl, rfl⟩
          · rw [if_neg cc] at h; cases h; exact ⟨rfl, rfl⟩
        obtain ⟨rfl, rfl⟩ := hq
        clear hdf hd
        go_wp2_with (go_at_call 31; refine (conf_isDigit.calls (bt s 6) false _ HDF.out).mono ?_; rintro e w2 ⟨rfl, ⟨⟨nq, rfl⟩⟩⟩)
        go_ret2
        exact ⟨rfl, pw_below_drewN HB.out nq⟩
    · rw [show ((7 : Nat) : Int) = 7 from rfl]
      simp only [show (if 7 ≤ 4 then (0 : Int) else if 7 ≤ 7 then 1 else 2) = 1 from rfl]
      have lt : (((7 : Int)) < (s.size : Int)) = True := eq_true (by rw [Hz.out]; decide)
      have lt2 : decide ((7 : Int) < (s.size : Int)) = true := decide_eq_true (by rw [Hz.out]; decide)
      go_wp2
      go_roundw
      case rel => exact ⟨8, by omega, rfl, rfl, ⟨a, b, c, rdN_sign s 7 a b c HN.out (by decide), HG.out, HB.out⟩⟩
      case measure => simp [intOf]
    · rw [show ((8 : Nat) : Int) = 8 from rfl]
      simp only [show (if 8 ≤ 4 then (0 : Int) else if 8 ≤ 7 then 1 else 2) = 2 from rfl]
      have lt : (((8 : Int)) < (s.size : Int)) = True := eq_true (by rw [Hz.out]; decide)
      have lt2 : decide ((8 : Int) < (s.size : Int)) = true := decide_eq_true (by rw [Hz.out]; decide)
      have ix : ((s[8]'(by rw [Hz.out]; decide)).toNat : Int) = bt s 8 := bt_at s 8 (by show 8 < _; rw [Hz.out]; decide)
      have br := bt_range s 8
      by_cases hd : 48 ≤ bt s 8 ∧ bt s 8 ≤ 57
      · have hdf : conf_isDigit.f (bt s 8) = some true := by unfold conf_isDigit.f; rw [if_pos hd.1, decide_eq_true hd.2]
        have HDF := Aside0.mk hdf
        clear hdf
        obtain ⟨hd1, hd2⟩ := hd
        go_wp2_with (go_at_call 31; refine (conf_isDigit.calls (bt s 8) true _ HDF.out).mono ?_; rintro e w2 ⟨rfl, ⟨⟨nq, rfl⟩⟩⟩)
        go_region
        all_goals
          go_wp2
          go_roundw
          case rel => exact ⟨9, by omega, rfl, rfl, ⟨a, b, 10 * c + (bt s 8 - 48), rdN_digit s 8 a b c HN.out (by decide) ⟨hd1, hd2⟩, heap_set3 HG.out, Below.setCell (pw_below_drewN HB.out nq).drew (Nat.le_refl _) _⟩⟩
          case measure => simp [intOf]
      · have hdf : conf_isDigit.f (bt s 8) = some false := by
          unfold conf_isDigit.f
          by_cases h48 : bt s 8 ≥ 48
          · rw [if_pos h48, decide_eq_false (fun h57 => hd ⟨h48, h57⟩)]
          · rw [if_neg h48]
        have HDF := Aside0.mk hdf
        have hq : r1 = 0 ∧ r2 = 8 := by
          have h := H.out
          unfold conf_ReadDay.f at h
          have hz : rdN s 10 = none := rdN_none s 9 (rdN_bad s 8 a b c HN.out (by decide) hd) 10 (by omega)
          rw [hz] at h
          by_cases cc : s.size = 10 ∧ bt s 4 = 45 ∧ bt s 7 = 45
          · rw [if_pos cc] at h; cases h; exact ⟨rfl, rfl⟩
          · rw [if_neg cc] at h; cases h; exact ⟨rfl, rfl⟩
        obtain ⟨rfl, rfl⟩ := hq
        clear hdf hd
        go_wp2_with (go_at_call 31; refine (conf_isDigit.calls (bt s 8) false _ HDF.out).mono ?_; rintro e w2 ⟨rfl, ⟨⟨nq, rfl⟩⟩⟩)
        go_ret2
        exact ⟨rfl, pw_below_drewN HB.out nq⟩
    · rw [show ((9 : Nat) : Int) = 9 from rfl]
      simp only [show (if 9 ≤ 4 then (0 : Int) else if 9 ≤ 7 then 1 else 2) = 2 from rfl]
      have lt : (((9 : Int)) < (s.size : Int)) = True := eq_true (by rw [Hz.out]; decide)
      have lt2 : decide ((9 : Int) < (s.size : Int)) = true := decide_eq_true (by rw [Hz.out]; decide)
      have ix : ((s[9]'(by rw [Hz.out]; decide)).toNat : Int) = bt s 9 := bt_at s 9 (by show 9 < _; rw [Hz.out]; decide)
      have br := bt_range s 9
      by_cases hd : 48 ≤ bt s 9 ∧ bt s 9 ≤ 57
      · have hdf : conf_isDigit.f (bt s 9) = some true := by unfold conf_isDigit.f; rw [if_pos hd.1, decide_eq_true hd.2]
        have HDF := Aside0.mk hdf
        clear hdf
        obtain ⟨hd1, hd2⟩ := hd
        go_wp2_with (go_at_call 31; refine (conf_isDigit.calls (bt s 9) true _ HDF.out).mono ?_; rintro e w2 ⟨rfl, ⟨⟨nq, rfl⟩⟩⟩)
        go_region
        all_goals
          go_wp2
          go_roundw
          case rel => exact ⟨10, by omega, rfl, rfl, ⟨a, b, 10 * c + (bt s 9 - 48), rdN_digit s 9 a b c HN.out (by decide) ⟨hd1, hd2⟩, heap_set3 HG.out, Below.setCell (pw_below_drewN HB.out nq).drew (Nat.le_refl _) _⟩⟩
          case measure => simp [intOf]
      · have hdf : conf_isDigit.f (bt s 9) = some false := by
          unfold conf_isDigit.f
          by_cases h48 : bt s 9 ≥ 48
          · rw [if_pos h48, decide_eq_false (fun h57 => hd ⟨h48, h57⟩)]
          · rw [if_neg h48]
        have HDF := Aside0.mk hdf
        have hq : r1 = 0 ∧ r2 = 8 := by
          have h := H.out
          unfold conf_ReadDay.f at h
          have hz : rdN s 10 = none := rdN_none s 10 (rdN_bad s 9 a b c HN.out (by decide) hd) 10 (by omega)
          rw [hz] at h
          by_cases cc : s.size = 10 ∧ bt s 4 = 45 ∧ bt s 7 = 45
          · rw [if_pos cc] at h; cases h; exact ⟨rfl, rfl⟩
          · rw [if_neg cc] at h; cases h; exact ⟨rfl, rfl⟩
        obtain ⟨rfl, rfl⟩ := hq
        clear hdf hd
        go_wp2_with (go_at_call 31; refine (conf_isDigit.calls (bt s 9) false _ HDF.out).mono ?_; rintro e w2 ⟨rfl, ⟨⟨nq, rfl⟩⟩⟩)
        go_ret2
        exact ⟨rfl, pw_below_drewN HB.out nq⟩
    · rw [show ((10 : Nat) : Int) = 10 from rfl]
      simp only [show (if 10 ≤ 4 then (0 : Int) else if 10 ≤ 7 then 1 else 2) = 2 from rfl]
      have lt : (((10 : Int)) < (s.size : Int)) = False := eq_false (by rw [Hz.out]; decide)
      have lt2 : decide ((10 : Int) < (s.size : Int)) = false := decide_eq_false (by rw [Hz.out]; decide)
      have hq : conf_DayOf.f k a b c = some (r1, r2) := by
        have h := H.out
        unfold conf_ReadDay.f at h
        by_cases cc : s.size = 10 ∧ bt s 4 = 45 ∧ bt s 7 = 45
        · rw [if_pos cc, HN.out] at h
          exact h
        · exact absurd ⟨Hz.out, hp4, hp7⟩ cc
      have HQ := Aside0.mk hq
      clear hq
      go_wp2_with (go_at_call 16; refine (conf_DayOf.calls k a b c r1 r2 _ HQ.out).mono ?_; rintro e w2 ⟨rfl, hb2⟩)
      go_ret2
      exact ⟨rfl, below_then HB.out HB.out.size hb2.below⟩
theorem conf_ReadDay.calls (k : Nat) (a0 : ByteArray) (r1 : Int) (r2 : Int) (w : World) (h : conf_ReadDay.f k a0 = some (r1, r2)) :
    Calls Tryd.prog 14 #[.string a0] w fun e w' => e = .returned (.tuple #[.int .i64 r1, .int .i64 r2]) ∧ Below w.heap.size w w' := by
  by_cases hsz : a0.size = 10
  case neg =>
    have hq : r1 = 0 ∧ r2 = 8 := by
      unfold conf_ReadDay.f at h
      rw [if_neg (fun c => hsz c.1)] at h; cases h; exact ⟨rfl, rfl⟩
    obtain ⟨rfl, rfl⟩ := hq
    have hs1 : ((a0.size : Int) != 10) = true := by rw [bne_iff_ne]; omega
    have hs2 : (a0.size != 10) = true := by rw [bne_iff_ne]; omega
    clear h hsz
    go_enter Tryd.func14, Tryd.ntmps14
    go_wp2
    go_ret2
    exact ⟨rfl, Below.refl _ _⟩
  have hs1 : ((a0.size : Int) != 10) = false := by rw [hsz]; rfl
  have hs2 : (a0.size != 10) = false := by rw [hsz]; rfl
  have h4s : 4 < a0.size := by omega
  have h7s : 7 < a0.size := by omega
  have i4 : ((a0[4]'h4s).toNat : Int) = bt a0 4 := bt_at a0 4 h4s
  have i7 : ((a0[7]'h7s).toNat : Int) = bt a0 7 := bt_at a0 7 h7s
  have l4 : (4 : Int) < a0.size := by omega
  have l7 : (7 : Int) < a0.size := by omega
  by_cases h4 : bt a0 4 = 45
  case neg =>
    have hq : r1 = 0 ∧ r2 = 8 := by
      unfold conf_ReadDay.f at h
      rw [if_neg (fun c => h4 c.2.1)] at h; cases h; exact ⟨rfl, rfl⟩
    obtain ⟨rfl, rfl⟩ := hq
    have e4 : (bt a0 4 != 45) = true := bne_iff_ne.mpr h4
    clear h hsz h4
    go_enter Tryd.func14, Tryd.ntmps14
    go_wp2
    go_ret2
    exact ⟨rfl, Below.refl _ _⟩
  by_cases h7 : bt a0 7 = 45
  case neg =>
    have hq : r1 = 0 ∧ r2 = 8 := by
      unfold conf_ReadDay.f at h
      rw [if_neg (fun c => h7 c.2.2)] at h; cases h; exact ⟨rfl, rfl⟩
    obtain ⟨rfl, rfl⟩ := hq
    have e4 : (bt a0 4 != 45) = false := by rw [h4]; rfl
    have e7 : (bt a0 7 != 45) = true := bne_iff_ne.mpr h7
    clear h hsz h4 h7
    go_enter Tryd.func14, Tryd.ntmps14
    go_wp2
    go_ret2
    exact ⟨rfl, Below.refl _ _⟩
  exact readday_any k a0 r1 r2 w hsz h4 h7 h

/-! ### conf_Date: function 15 -/
def conf_Date.f (k : Nat) (a0 : Int) : Option (Int × Int × Int × Int) := (conf_badDay.f a0).bind fun t119 => (if t119 = true then (some (0, 0, 0, 2)) else ((conf_date.f k a0).bind fun bt120 => (some (bt120.1, bt120.2.1, bt120.2.2, 0))))
theorem conf_Date.mono : ∀ a0 k, LeO (conf_Date.f k a0) (conf_Date.f (k + 1) a0) := by
  intro a0 k
  unfold conf_Date.f
  repeat' first
      | (with_reducible exact conf_date.mono _ _)
      | (with_reducible exact LeO.refl _)
      | (with_reducible exact LeO.none _)
      | (with_reducible refine LeO.ite ?_ ?_)
      | (with_reducible refine LeO.bind ?_ (fun _ => ?_))
      | exact conf_date.mono _ _
      | exact LeO.none _
      | refine LeO.ite ?_ ?_
      | refine LeO.bind ?_ (fun _ => ?_)
set_option maxHeartbeats 8000000 in
set_option maxRecDepth 100000 in
theorem conf_Date.calls (k : Nat) (a0 : Int) (r1 : Int) (r2 : Int) (r3 : Int) (r4 : Int) (w : World) (h : conf_Date.f k a0 = some (r1, r2, r3, r4)) :
    Calls Tryd.prog 15 #[.int .i64 a0] w fun e w' => e = .returned (.tuple #[.int .i64 r1, .int .i64 r2, .int .i64 r3, .int .i64 r4]) ∧ Drawn0 w w' := by
  have H : ((conf_badDay.f a0).bind fun t119 => (if t119 = true then (some (0, 0, 0, 2)) else ((conf_date.f k a0).bind fun bt120 => (some (bt120.1, bt120.2.1, bt120.2.2, 0))))) = some (r1, r2, r3, r4) := h
  clear h
  replace H := Option.bind_eq_some_iff.mp H
  obtain ⟨t119, A20, H⟩ := H
  replace H : (if t119 = true then (some (0, 0, 0, 2)) else ((conf_date.f k a0).bind fun bt120 => (some (bt120.1, bt120.2.1, bt120.2.2, 0)))) = some (r1, r2, r3, r4) := H
  have A2 := Aside0.mk A20
  clear A20
  by_cases c3 : t119 = true
  · subst c3
    have H1 : (some (0, 0, 0, 2)) = some (r1, r2, r3, r4) := by rw [if_pos rfl] at H; exact H
    clear H
    have H := H1
    clear H1
    simp only [Option.some.injEq, Prod.mk.injEq] at H
    obtain ⟨rfl, rfl, rfl, rfl⟩ := H
    go_enter Tryd.func15, Tryd.ntmps15
    go_wp2_with (first | ((with_reducible refine gate_callee (f := 29) rfl ?_); refine goesL_ (some 7) rfl rfl Tryd.func29 (by kernel_rfl) rfl #[.int .i64 a0] rfl (by (try simp only [List.map_toArray, List.map_cons, List.map_nil]); first | done | rfl | (simp only [List.length_drop, List.length_take]; rfl)) ?_; (with_reducible refine (conf_badDay.calls a0 true _ A2.out).mono ?_); rintro e w' ⟨rfl, ⟨nd, rfl⟩⟩; refine ⟨_, rfl, ?_⟩))
    refine bodyPost_ret (results_list (rs := [.tmp 2, .tmp 3, .tmp 4, .tmp 5]) rfl (by simp) (.tmp (.tmp (.tmp (.tmp .nil))))) rfl ?_
    exact ⟨by first | rfl | (simp; done) | (simp [*]; done), by repeat (first | exact Drawn0.refl _ | apply Drawn0.step)⟩
  · replace c3 := Bool.eq_false_iff.mpr c3
    subst c3
    have H1 : ((conf_date.f k a0).bind fun bt120 => (some (bt120.1, bt120.2.1, bt120.2.2, 0))) = some (r1, r2, r3, r4) := by rw [if_neg (show ¬ (false = true) by decide)] at H; exact H
    clear H
    have H := H1
    clear H1
    replace H := Option.bind_eq_some_iff.mp H
    obtain ⟨⟨t120, t121, t122⟩, A40, H⟩ := H
    replace H : (some (t120, t121, t122, 0)) = some (r1, r2, r3, r4) := H
    have A4 := Aside0.mk A40
    clear A40
    simp only [Option.some.injEq, Prod.mk.injEq] at H
    obtain ⟨rfl, rfl, rfl, rfl⟩ := H
    go_enter Tryd.func15, Tryd.ntmps15
    go_wp2_with (first | ((with_reducible refine gate_callee (f := 29) rfl ?_); refine goesL_ (some 7) rfl rfl Tryd.func29 (by kernel_rfl) rfl #[.int .i64 a0] rfl (by (try simp only [List.map_toArray, List.map_cons, List.map_nil]); first | done | rfl | (simp only [List.length_drop, List.length_take]; rfl)) ?_; (with_reducible refine (conf_badDay.calls a0 false _ A2.out).mono ?_); rintro e w' ⟨rfl, ⟨nd, rfl⟩⟩; refine ⟨_, rfl, ?_⟩) | ((with_reducible refine gate_callee (f := 32) rfl ?_); refine goesL_ (some 10) rfl rfl Tryd.func32 (by kernel_rfl) rfl #[.int .i64 a0] rfl (by (try simp only [List.map_toArray, List.map_cons, List.map_nil]); first | done | rfl | (simp only [List.length_drop, List.length_take]; rfl)) ?_; (with_reducible refine (conf_date.calls k a0 t120 t121 t122 _ A4.out).mono ?_); rintro e w' ⟨rfl, ⟨nd, rfl⟩⟩; refine ⟨_, rfl, ?_⟩))
    refine bodyPost_ret (results_list (rs := [.tmp 2, .tmp 3, .tmp 4, .tmp 5]) rfl (by simp) (.tmp (.tmp (.tmp (.tmp .nil))))) rfl ?_
    exact ⟨by first | rfl | (simp; done) | (simp [*]; done), by repeat (first | exact Drawn0.refl _ | apply Drawn0.step)⟩

end Go.Proofs.YtnndipcggegclaaDoor.PDayRound
