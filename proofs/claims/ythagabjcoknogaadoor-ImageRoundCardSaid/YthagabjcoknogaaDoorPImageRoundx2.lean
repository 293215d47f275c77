-- Made for this claim by a program of this session (xprint.py over the kit's printing program); Lean checks it.
import Derived.Test.YthagabjcoknogaaDoorPImageRoundx0
import Derived.Test.YthagabjcoknogaaDoorPImageRoundx1
namespace Go.Proofs.YthagabjcoknogaaDoor.PImageRound
open Go.RowKit Go.Proofs.YthagabjcoknogaaDoorW.PrintWords Go.Proofs.YthagabjcoknogaaDoorW.PrintLast Go.Proofs.YthagabjcoknogaaDoorW.PrintMore
attribute [local go_sem] max2_int min2_int max_two min_two max_three min_three max_four min_four   -- for this text's walks alone
set_option linter.unusedVariables false
set_option linter.unusedSimpArgs false

/-! ### asset_CheckImage: function 37 -/
mutual
def asset_CheckImage.j0 : Nat → Bool → Int → Int → List Int → Option (Int)
  | 0, _, _, _, _ => none
  | k + 1, x14, x104000, x104001, x104002 => if x14 = true then (some 2) else (if (x104002.length : Int) = (wrap64 (x104000 * x104001)) then (asset_CheckImage.l0 k x104002 (x104002.length : Int) 0) else (some 1))
def asset_CheckImage.l0 : Nat → List Int → Int → Int → Option (Int)
  | 0, _, _, _ => none
  | k + 1, x25, x26, x27 => if x27 < x26 then (if 0 ≤ x27 then (if x27 < (x25.length : Int) then (if (rd x25 x27) < 0 then (some 2) else (if (rd x25 x27) > 15 then (some 2) else (asset_CheckImage.l0 k x25 x26 (wrap64 (x27 + 1))))) else (none)) else (none)) else (some 0)
end
def asset_CheckImage.f (k : Nat) (a0_0 : Int) (a0_1 : Int) (l0_2 : List Int) : Option (Int) := (asset_isSide.f a0_0).bind fun t104 => (if t104 = true then ((asset_isSide.f a0_1).bind fun t105 => (asset_CheckImage.j0 k (!t105) a0_0 a0_1 l0_2)) else (asset_CheckImage.j0 k true a0_0 a0_1 l0_2))
theorem asset_CheckImage.mono_l : ∀ k, (∀ y0 y1 y2 y3, LeO (asset_CheckImage.j0 k y0 y1 y2 y3) (asset_CheckImage.j0 (k + 1) y0 y1 y2 y3)) ∧ (∀ y0 y1 y2, LeO (asset_CheckImage.l0 k y0 y1 y2) (asset_CheckImage.l0 (k + 1) y0 y1 y2))
  | 0 => ⟨fun _ _ _ _ r h => by simp [asset_CheckImage.j0] at h, fun _ _ _ r h => by simp [asset_CheckImage.l0] at h⟩
  | k + 1 => by
    obtain ⟨ih0, ih1⟩ := asset_CheckImage.mono_l k
    refine ⟨?_, ?_⟩
    · intro y0 y1 y2 y3
      unfold asset_CheckImage.j0
      repeat' first
      | (with_reducible exact ih0 _ _ _ _)
      | (with_reducible exact ih1 _ _ _)
      | (with_reducible exact LeO.refl _)
      | (with_reducible exact LeO.none _)
      | (with_reducible refine LeO.ite ?_ ?_)
      | (with_reducible refine LeO.bind ?_ (fun _ => ?_))
      | exact ih0 _ _ _ _
      | exact ih1 _ _ _
      | exact LeO.none _
      | refine LeO.ite ?_ ?_
      | refine LeO.bind ?_ (fun _ => ?_)
    · intro y0 y1 y2
      unfold asset_CheckImage.l0
      repeat' first
      | (with_reducible exact ih0 _ _ _ _)
      | (with_reducible exact ih1 _ _ _)
      | (with_reducible exact LeO.refl _)
      | (with_reducible exact LeO.none _)
      | (with_reducible refine LeO.ite ?_ ?_)
      | (with_reducible refine LeO.bind ?_ (fun _ => ?_))
      | exact ih0 _ _ _ _
      | exact ih1 _ _ _
      | exact LeO.none _
      | refine LeO.ite ?_ ?_
      | refine LeO.bind ?_ (fun _ => ?_)
theorem asset_CheckImage.mono : ∀ a0 a1 a2 k, LeO (asset_CheckImage.f k a0 a1 a2) (asset_CheckImage.f (k + 1) a0 a1 a2) := by
  intro a0 a1 a2 k
  obtain ⟨ih0, ih1⟩ := asset_CheckImage.mono_l k
  unfold asset_CheckImage.f
  repeat' first
      | (with_reducible exact ih0 _ _ _ _)
      | (with_reducible exact ih1 _ _ _)
      | (with_reducible exact LeO.refl _)
      | (with_reducible exact LeO.none _)
      | (with_reducible refine LeO.ite ?_ ?_)
      | (with_reducible refine LeO.bind ?_ (fun _ => ?_))
      | exact ih0 _ _ _ _
      | exact ih1 _ _ _
      | exact LeO.none _
      | refine LeO.ite ?_ ?_
      | refine LeO.bind ?_ (fun _ => ?_)
set_option maxHeartbeats 8000000 in
set_option maxRecDepth 100000 in
theorem asset_CheckImage.calls (k : Nat) (a0_0 : Int) (a0_1 : Int) (A0_2 : Option Addr) (c0_2 : Nat) (l0_2 : List Int) (r : Int) (w : World) (hr0_2 : Kd.C (Kd.int .i64) w A0_2 l0_2.length l0_2) (hc0_2 : l0_2.length ≤ c0_2) (h : asset_CheckImage.f k a0_0 a0_1 l0_2 = some r) :
    Calls Tryd.prog 37 #[.agg #[.int .i64 a0_0, .int .i64 a0_1, .slice A0_2 l0_2.length c0_2]] w fun e w' => e = .returned (.int .i64 r) ∧ Below w.heap.size w w' := by
  have hu48 := Tryd.underlying48
  have HR0_2 := Aside0.mk hr0_2
  have HC0_2 := Aside0.mk hc0_2
  clear hr0_2 hc0_2
  have HB := Aside0.mk (Below.refl w.heap.size w)
  have H : ((asset_isSide.f a0_0).bind fun t104 => (if t104 = true then ((asset_isSide.f a0_1).bind fun t105 => (asset_CheckImage.j0 k (!t105) a0_0 a0_1 l0_2)) else (asset_CheckImage.j0 k true a0_0 a0_1 l0_2))) = some r := h
  clear h
  have HC2 := Aside0.mk H
  clear H
  go_enter Tryd.func37, Tryd.ntmps37
  go_upto_region 1 with (first | ((with_reducible refine gate_dst (N := 1) rfl ?_); refine box_event ?hg (N := 1) ?hd (cs := #[.int .i64 a0_0, .int .i64 a0_1, .slice A0_2 l0_2.length c0_2]) (t := 48) ?hr ?_; (case hd => rfl); (case hg => rfl); (case hr => first | (go_simp; done) | (go_simp; rfl)); intro gb103 hg w3 hbox hb; have n0_ := Aside0.mk (below_step (by repeat (first | (with_reducible first | exact HB.out | apply below_alloc | apply pw_below_drewN | apply below_drew1) | exact HB.out)) hb); have n1_ := Aside0.mk (hbox); have n2_ := Aside0.mk ((by rw [hg]; exact (below_size (by repeat (first | (with_reducible first | exact HB.out | apply below_alloc | apply pw_below_drewN | apply below_drew1) | exact HB.out))) : w.heap.size ≤ gb103)); have n3_ := Aside0.mk ((by rw [hg]; exact (below_size (by repeat (first | (with_reducible first | exact HB.out | apply below_alloc | apply pw_below_drewN | apply below_drew1) | exact HB.out))) : w.heap.size ≤ gb103)); clear HB; have HB := n0_; have BK103 := n1_; have GW103 := n2_; have GE103 := n3_; clear n0_ n1_ n2_ n3_; clear hb hbox hg))
  (try simp only [Act.put, List.setIfInBounds_toArray, List.set_cons_zero, List.set_cons_succ])
  go_cut [14] (fun v14 wc => ∃ (kq : Nat) (x14_1 : Bool), v14 = .bool x14_1 ∧ Aside0 (asset_CheckImage.j0 kq x14_1 a0_0 a0_1 l0_2 = some r) ∧ Aside0 (kq ≤ k) ∧ Aside0 (wc.heap[gb103]? = some (.cells #[.int .i64 a0_0, .int .i64 a0_1, (.slice A0_2 l0_2.length c0_2)] 48 (0, 0))) ∧ Aside0 (Below w.heap.size w wc))
  case first =>
    have H := HC2.out
    clear HC2
    replace H := Option.bind_eq_some_iff.mp H
    obtain ⟨t104, A40, H⟩ := H
    replace H : (if t104 = true then ((asset_isSide.f a0_1).bind fun t105 => (asset_CheckImage.j0 k (!t105) a0_0 a0_1 l0_2)) else (asset_CheckImage.j0 k true a0_0 a0_1 l0_2)) = some r := H
    have A4 := Aside0.mk A40
    clear A40
    by_cases c5 : t104 = true
    · subst c5
      have H1 : ((asset_isSide.f a0_1).bind fun t105 => (asset_CheckImage.j0 k (!t105) a0_0 a0_1 l0_2)) = some r := by rw [if_pos rfl] at H; exact H
      clear H
      have H := H1
      clear H1
      replace H := Option.bind_eq_some_iff.mp H
      obtain ⟨t105, A60, H⟩ := H
      replace H : (asset_CheckImage.j0 k (!t105) a0_0 a0_1 l0_2) = some r := H
      have A6 := Aside0.mk A60
      clear A60
      have H' := Aside0.mk H
      clear H
      have hcz7_0 : w3.cell? ⟨gb103, 0, none⟩ = some (.int .i64 a0_0) := (blk_cell BK103.out 0).trans rfl
      have hcz7_1 : w3.cell? ⟨gb103, 1, none⟩ = some (.int .i64 a0_1) := (blk_cell BK103.out 1).trans rfl
      have hcz7_2 : w3.cell? ⟨gb103, 2, none⟩ = some (.slice A0_2 l0_2.length c0_2) := (blk_cell BK103.out 2).trans rfl
      have hfz7_0 := blk_frozen BK103.out 0
      have hfz7_1 := blk_frozen BK103.out 1
      have hfz7_2 := blk_frozen BK103.out 2
      go_wp2_with (first | ((with_reducible refine gate_callee (f := 47) rfl ?_); refine goesL_ (some 7) rfl rfl Tryd.func47 (by kernel_rfl) rfl #[.int .i64 a0_0] rfl (by (try simp only [List.map_toArray, List.map_cons, List.map_nil]); first | done | rfl | (simp only [List.length_drop, List.length_take]; rfl)) ?_; (with_reducible refine (asset_isSide.calls a0_0 true _ A4.out).mono ?_); rintro e w' ⟨rfl, ⟨nd, rfl⟩⟩; refine ⟨_, rfl, ?_⟩) | (go_at_call 47; (with_reducible refine (asset_isSide.calls a0_1 t105 _ A6.out).mono ?_); rintro e w' ⟨rfl, ⟨nd, rfl⟩⟩))
      go_meet
      case rel => exact ⟨_, (!t105), (by first | rfl | (simp; done) | (simp [*]; done)), H', ⟨by first | omega | exact Nat.le_refl _⟩, ⟨by (with_reducible repeat (first | refine blk_drewN ?_ _ | refine blk_drew ?_ | refine blk_alloc ?_ _)); exact BK103.out⟩, ⟨by repeat (first | (with_reducible first | exact HB.out | apply below_alloc | apply pw_below_drewN | apply below_drew1 | refine below_set ?_ GE103.out) | exact HB.out)⟩⟩
    · replace c5 := Bool.eq_false_iff.mpr c5
      subst c5
      have H1 : (asset_CheckImage.j0 k true a0_0 a0_1 l0_2) = some r := by rw [if_neg (show ¬ (false = true) by decide)] at H; exact H
      clear H
      have H := H1
      clear H1
      have H' := Aside0.mk H
      clear H
      have hcz8_0 : w3.cell? ⟨gb103, 0, none⟩ = some (.int .i64 a0_0) := (blk_cell BK103.out 0).trans rfl
      have hcz8_1 : w3.cell? ⟨gb103, 1, none⟩ = some (.int .i64 a0_1) := (blk_cell BK103.out 1).trans rfl
      have hcz8_2 : w3.cell? ⟨gb103, 2, none⟩ = some (.slice A0_2 l0_2.length c0_2) := (blk_cell BK103.out 2).trans rfl
      have hfz8_0 := blk_frozen BK103.out 0
      have hfz8_1 := blk_frozen BK103.out 1
      have hfz8_2 := blk_frozen BK103.out 2
      go_wp2_with (first | ((with_reducible refine gate_callee (f := 47) rfl ?_); refine goesL_ (some 7) rfl rfl Tryd.func47 (by kernel_rfl) rfl #[.int .i64 a0_0] rfl (by (try simp only [List.map_toArray, List.map_cons, List.map_nil]); first | done | rfl | (simp only [List.length_drop, List.length_take]; rfl)) ?_; (with_reducible refine (asset_isSide.calls a0_0 false _ A4.out).mono ?_); rintro e w' ⟨rfl, ⟨nd, rfl⟩⟩; refine ⟨_, rfl, ?_⟩))
      go_meet
      case rel => exact ⟨_, (true), (by first | rfl | (simp; done) | (simp [*]; done)), H', ⟨by first | omega | exact Nat.le_refl _⟩, ⟨by (with_reducible repeat (first | refine blk_drewN ?_ _ | refine blk_drew ?_ | refine blk_alloc ?_ _)); exact BK103.out⟩, ⟨by repeat (first | (with_reducible first | exact HB.out | apply below_alloc | apply pw_below_drewN | apply below_drew1 | refine below_set ?_ GE103.out) | exact HB.out)⟩⟩
  case rest =>
    clear HC2
    try clear p2
    try clear c3
    try clear c4
    try clear c5
    try clear hcz7_0
    try clear hcz7_1
    try clear hcz7_2
    try clear hcz8_0
    try clear hcz8_1
    try clear hcz8_2
    try clear hfz7_0
    try clear hfz7_1
    try clear hfz7_2
    try clear hfz8_0
    try clear hfz8_1
    try clear hfz8_2
    obtain ⟨kq, x14_1, rfl, HA, HJ1, BK103, HB⟩ := hcut
    cases kq with
    | zero => exact absurd HA.out (by simp [asset_CheckImage.j0])
    | succ kj1 =>
      have H := HA.out
      clear HA
      simp only [asset_CheckImage.j0] at H
      by_cases c9 : x14_1 = true
      · subst c9
        have H1 : (some 2) = some r := by rw [if_pos rfl] at H; exact H
        clear H
        have H := H1
        clear H1
        obtain rfl := Option.some.inj H
        go_wp2
        go_ret
        exact ⟨by first | rfl | (simp [errW_none, errW_some] <;> rfl) | (simp [*, errW_none, errW_some] <;> rfl), by repeat (first | (with_reducible first | exact HB.out | apply below_alloc | apply pw_below_drewN | apply below_drew1 | refine below_set ?_ GE103.out) | exact HB.out)⟩
      · replace c9 := Bool.eq_false_iff.mpr c9
        subst c9
        have H1 : (if (l0_2.length : Int) = (wrap64 (a0_0 * a0_1)) then (asset_CheckImage.l0 kj1 l0_2 (l0_2.length : Int) 0) else (some 1)) = some r := by rw [if_neg (show ¬ (false = true) by decide)] at H; exact H
        clear H
        have H := H1
        clear H1
        by_cases c10 : (l0_2.length : Int) = (wrap64 (a0_0 * a0_1))
        · rw [if_pos c10] at H
          have c10b0 : ((l0_2.length : Int) == (wrap64 (a0_0 * a0_1))) = true := beq_iff_eq.mpr c10
          have c10b1 : ((l0_2.length : Int) != (wrap64 (a0_0 * a0_1))) = false := bne_eq_false_iff_eq.mpr c10
          clear c10
          have H' := Aside0.mk H
          clear H
          have hcz11_0 : wc.cell? ⟨gb103, 0, none⟩ = some (.int .i64 a0_0) := (blk_cell BK103.out 0).trans rfl
          have hcz11_1 : wc.cell? ⟨gb103, 1, none⟩ = some (.int .i64 a0_1) := (blk_cell BK103.out 1).trans rfl
          have hcz11_2 : wc.cell? ⟨gb103, 2, none⟩ = some (.slice A0_2 l0_2.length c0_2) := (blk_cell BK103.out 2).trans rfl
          have hfz11_0 := blk_frozen BK103.out 0
          have hfz11_1 := blk_frozen BK103.out 1
          have hfz11_2 := blk_frozen BK103.out 2
          go_wp2
          go_loopg [27] kj1 (fun kq v27 w' => ∃ (x27_2 : Int), v27 = .int .i64 x27_2 ∧ Aside0 (asset_CheckImage.l0 kq l0_2 (l0_2.length : Int) x27_2 = some r) ∧ Aside0 (kq ≤ kj1) ∧ Aside0 (w'.heap[gb103]? = some (.cells #[.int .i64 a0_0, .int .i64 a0_1, (.slice A0_2 l0_2.length c0_2)] 48 (0, 0))) ∧ Aside0 (Below w.heap.size w w'))
          case atStart => exact ⟨(0), (by first | rfl | (simp; done) | (simp [*]; done)), H', ⟨Nat.le_refl _⟩, ⟨by (with_reducible repeat (first | refine blk_drewN ?_ _ | refine blk_drew ?_ | refine blk_alloc ?_ _)); exact BK103.out⟩, ⟨by repeat (first | (with_reducible first | exact HB.out | apply below_alloc | apply pw_below_drewN | apply below_drew1 | refine below_set ?_ GE103.out) | exact HB.out)⟩⟩
          case round =>
            clear H'
            try clear c1
            try clear p2
            try clear c3
            try clear c4
            try clear c5
            try clear p6
            try clear c9
            try clear c10
            try clear c10b0
            try clear c10b1
            try clear hcz11_0
            try clear hcz11_1
            try clear hcz11_2
            try clear hcz7_0
            try clear hcz7_1
            try clear hcz7_2
            try clear hcz8_0
            try clear hcz8_1
            try clear hcz8_2
            try clear hfz11_0
            try clear hfz11_1
            try clear hfz11_2
            try clear hfz7_0
            try clear hfz7_1
            try clear hfz7_2
            try clear hfz8_0
            try clear hfz8_1
            try clear hfz8_2
            try clear p2
            obtain ⟨x27_2, rfl, HA, HK2, BK103, HB⟩ := hrel
            cases gk with
            | zero => exact absurd HA.out (by simp [asset_CheckImage.l0])
            | succ k2 =>
              have H := HA.out
              clear HA
              simp only [asset_CheckImage.l0] at H
              by_cases c12 : x27_2 < (l0_2.length : Int)
              · rw [if_pos c12] at H
                have c12b0 : decide (x27_2 < (l0_2.length : Int)) = true := decide_eq_true c12
                clear c12
                by_cases c13 : 0 ≤ x27_2
                · rw [if_pos c13] at H
                  have c13b0 : decide (0 ≤ x27_2) = true := decide_eq_true c13
                  clear c13
                  by_cases c14 : x27_2 < (l0_2.length : Int)
                  · rw [if_pos c14] at H
                    have c14b0 : decide (x27_2 < (l0_2.length : Int)) = true := decide_eq_true c14
                    clear c14
                    by_cases c15 : (rd l0_2 x27_2) < 0
                    · rw [if_pos c15] at H
                      have c15b0 : decide ((rd l0_2 x27_2) < 0) = true := decide_eq_true c15
                      clear c15
                      obtain rfl := Option.some.inj H
                      have p106 : 0 ≤ (x27_2 : Int) := of_decide_eq_true (by first | (with_reducible assumption) | assumption)
                      have q106 : x27_2 < (l0_2.length : Int) := of_decide_eq_true (by first | (with_reducible assumption) | assumption)
                      obtain ⟨ad106, e106, hx106_0⟩ := Kd.at_int HR0_2.out x27_2 p106 q106
                      cases e106
                      replace hx106_0 := (HB.out.cell (World.block_lt_of_cell? w _ hx106_0)).trans hx106_0
                      replace p106 := eq_true p106
                      replace q106 := eq_true q106
                      go_wp2
                      go_ret
                      exact ⟨by first | rfl | (simp [errW_none, errW_some] <;> rfl) | (simp [*, errW_none, errW_some] <;> rfl), by repeat (first | (with_reducible first | exact HB.out | apply below_alloc | apply pw_below_drewN | apply below_drew1 | refine below_set ?_ GE103.out) | exact HB.out)⟩
                    · rw [if_neg c15] at H
                      have c15b0 : decide ((rd l0_2 x27_2) < 0) = false := decide_eq_false c15
                      clear c15
                      by_cases c16 : (rd l0_2 x27_2) > 15
                      · rw [if_pos c16] at H
                        have c16b0 : decide (15 < (rd l0_2 x27_2)) = true := decide_eq_true c16
                        clear c16
                        obtain rfl := Option.some.inj H
                        have p106 : 0 ≤ (x27_2 : Int) := of_decide_eq_true (by first | (with_reducible assumption) | assumption)
                        have q106 : x27_2 < (l0_2.length : Int) := of_decide_eq_true (by first | (with_reducible assumption) | assumption)
                        obtain ⟨ad106, e106, hx106_0⟩ := Kd.at_int HR0_2.out x27_2 p106 q106
                        cases e106
                        replace hx106_0 := (HB.out.cell (World.block_lt_of_cell? w _ hx106_0)).trans hx106_0
                        replace p106 := eq_true p106
                        replace q106 := eq_true q106
                        go_wp2
                        go_ret
                        exact ⟨by first | rfl | (simp [errW_none, errW_some] <;> rfl) | (simp [*, errW_none, errW_some] <;> rfl), by repeat (first | (with_reducible first | exact HB.out | apply below_alloc | apply pw_below_drewN | apply below_drew1 | refine below_set ?_ GE103.out) | exact HB.out)⟩
                      · rw [if_neg c16] at H
                        have c16b0 : decide (15 < (rd l0_2 x27_2)) = false := decide_eq_false c16
                        clear c16
                        have H' := Aside0.mk H
                        clear H
                        have p106 : 0 ≤ (x27_2 : Int) := of_decide_eq_true (by first | (with_reducible assumption) | assumption)
                        have q106 : x27_2 < (l0_2.length : Int) := of_decide_eq_true (by first | (with_reducible assumption) | assumption)
                        obtain ⟨ad106, e106, hx106_0⟩ := Kd.at_int HR0_2.out x27_2 p106 q106
                        cases e106
                        replace hx106_0 := (HB.out.cell (World.block_lt_of_cell? w _ hx106_0)).trans hx106_0
                        replace p106 := eq_true p106
                        replace q106 := eq_true q106
                        go_wp2
                        go_roundg k2
                        case measure => have := HJ1.out; have := HK2.out; omega
                        case rel => exact ⟨(wrap64 (x27_2 + 1)), (by first | rfl | (simp; done) | (simp [*]; done)), H', ⟨by have := HJ1.out; have := HK2.out; omega⟩, ⟨by (with_reducible repeat (first | refine blk_drewN ?_ _ | refine blk_drew ?_ | refine blk_alloc ?_ _)); exact BK103.out⟩, ⟨by repeat (first | (with_reducible first | exact HB.out | apply below_alloc | apply pw_below_drewN | apply below_drew1 | refine below_set ?_ GE103.out) | exact HB.out)⟩⟩
                  · rw [if_neg c14] at H
                    exact absurd H (by simp)
                · rw [if_neg c13] at H
                  exact absurd H (by simp)
              · rw [if_neg c12] at H
                have c12b0 : decide (x27_2 < (l0_2.length : Int)) = false := decide_eq_false c12
                clear c12
                obtain rfl := Option.some.inj H
                go_wp2
                go_ret
                exact ⟨by first | rfl | (simp [errW_none, errW_some] <;> rfl) | (simp [*, errW_none, errW_some] <;> rfl), by repeat (first | (with_reducible first | exact HB.out | apply below_alloc | apply pw_below_drewN | apply below_drew1 | refine below_set ?_ GE103.out) | exact HB.out)⟩
        · rw [if_neg c10] at H
          have c10b0 : ((l0_2.length : Int) == (wrap64 (a0_0 * a0_1))) = false := beq_eq_false_iff_ne.mpr c10
          have c10b1 : ((l0_2.length : Int) != (wrap64 (a0_0 * a0_1))) = true := bne_iff_ne.mpr c10
          obtain rfl := Option.some.inj H
          have hcz17_0 : wc.cell? ⟨gb103, 0, none⟩ = some (.int .i64 a0_0) := (blk_cell BK103.out 0).trans rfl
          have hcz17_1 : wc.cell? ⟨gb103, 1, none⟩ = some (.int .i64 a0_1) := (blk_cell BK103.out 1).trans rfl
          have hcz17_2 : wc.cell? ⟨gb103, 2, none⟩ = some (.slice A0_2 l0_2.length c0_2) := (blk_cell BK103.out 2).trans rfl
          have hfz17_0 := blk_frozen BK103.out 0
          have hfz17_1 := blk_frozen BK103.out 1
          have hfz17_2 := blk_frozen BK103.out 2
          go_wp2
          go_ret
          exact ⟨by first | rfl | (simp [errW_none, errW_some] <;> rfl) | (simp [*, errW_none, errW_some] <;> rfl), by repeat (first | (with_reducible first | exact HB.out | apply below_alloc | apply pw_below_drewN | apply below_drew1 | refine below_set ?_ GE103.out) | exact HB.out)⟩

/-! ### strconv_FormatInt: function 56 -/
theorem fi_ba (x : ByteArray) (l : List UInt8) (h : x.data.toList = l) : x = ⟨l.toArray⟩ := by
  subst h
  cases x
  simp
set_option maxHeartbeats 2000000 in
set_option maxRecDepth 100000 in
theorem fi_small (i : Nat) (h : i < 100) (w : World) :
    Calls Tryd.prog 64 #[.int .i64 i] w fun e w' => e = .returned (.string ⟨(Lib.decDigits i).toArray⟩) ∧ w' = w := by
  go_enter Tryd.func64, Tryd.ntmps64
  go_name_bytes_deep 45 SM hSM
  have eSM : SM = Lib.smalls := by rw [← hSM]; decide +kernel
  subst eSM
  clear hSM
  go_name_bytes_deep 30 DG hDG
  have eDG : DG = Lib.digits36 := by rw [← hDG]; decide +kernel
  subst eDG
  clear hDG
  by_cases h10 : i < 10
  · have hsl : ∀ w, (Instr.slice 9 (.string Lib.digits36) (some (.int .i64 (i : Int))) (some (.int .i64 ((i : Int) + 1))) none).run Tryd.prog w = .ok (.string (Lib.digits36.extract i (i + 1))) w := fun w => by
      rw [run_slice_string w 9 Lib.digits36 .i64 .i64 _ _ Tryd.underlying9 (by omega) (by omega) (by rw [Lib.digits36_size]; omega), show ((i : Int)).toNat = i by omega, show ((i : Int) + 1).toNat = i + 1 by omega]
    go_wp2
    go_ret
    refine ⟨?_, rfl⟩
    show Ending.returned (Value.string (Lib.digits36.extract i (i + 1))) = _
    rw [fi_ba (Lib.digits36.extract i (i + 1)) (Lib.decDigits i) (by rw [Lib.extract_data]; exact Lib.digits36_piece h10)]
  · have hsl : ∀ w, (Instr.slice 9 (.string Lib.smalls) (some (.int .i64 ((i : Int) * 2))) (some (.int .i64 ((i : Int) * 2 + 2))) none).run Tryd.prog w = .ok (.string (Lib.smalls.extract (i * 2) (i * 2 + 2))) w := fun w => by
      rw [run_slice_string w 9 Lib.smalls .i64 .i64 _ _ Tryd.underlying9 (by omega) (by omega) (by rw [Lib.smalls_size]; omega), show ((i : Int) * 2).toNat = i * 2 by omega, show ((i : Int) * 2 + 2).toNat = i * 2 + 2 by omega]
    go_wp2
    go_ret
    refine ⟨?_, rfl⟩
    show Ending.returned (Value.string (Lib.smalls.extract (i * 2) (i * 2 + 2))) = _
    rw [fi_ba (Lib.smalls.extract (i * 2) (i * 2 + 2)) (Lib.decDigits i) (by rw [Lib.extract_data]; exact Lib.smalls_piece h10 h)]
def strconv_FormatInt.f (a0 a1 : Int) : Option ByteArray := if a1 = 10 ∧ 0 ≤ a0 ∧ a0 < 100 then some ⟨(Lib.decDigits a0.toNat).toArray⟩ else none
set_option maxHeartbeats 1000000 in
theorem strconv_FormatInt.calls (a0 a1 : Int) (r : ByteArray) (w : World) (h : strconv_FormatInt.f a0 a1 = some r) :
    Calls Tryd.prog 56 #[.int .i64 a0, .int .i64 a1] w fun e w' => e = .returned (.string r) ∧ Drawn0 w w' := by
  unfold strconv_FormatInt.f at h
  split at h
  case isFalse => cases h
  rename_i hb
  obtain ⟨rfl, h0, h1⟩ := hb
  obtain ⟨i, rfl⟩ := Int.eq_ofNat_of_zero_le h0
  have h := Option.some.inj h
  rw [Int.toNat_natCast] at h
  subst h
  go_enter Tryd.func56, Tryd.ntmps56
  go_wp2_with (go_at_call 64; refine (fi_small i (by omega) _).mono ?_; rintro e w' ⟨rfl, rfl⟩)
  go_ret
  exact ⟨rfl, Drawn0.refl _⟩

/-! ### strconv_Itoa_48: function 48 -/
def strconv_Itoa_48.f (a0 : Int) : Option (ByteArray) := (strconv_FormatInt.f a0 10).bind fun t107 => (some t107)
set_option maxHeartbeats 8000000 in
set_option maxRecDepth 100000 in
theorem strconv_Itoa_48.calls (a0 : Int) (r : ByteArray) (w : World) (h : strconv_Itoa_48.f a0 = some r) :
    Calls Tryd.prog 48 #[.int .i64 a0] w fun e w' => e = .returned (.string r) ∧ Drawn0 w w' := by
  have H : ((strconv_FormatInt.f a0 10).bind fun t107 => (some t107)) = some r := h
  clear h
  replace H := Option.bind_eq_some_iff.mp H
  obtain ⟨t107, A20, H⟩ := H
  replace H : (some t107) = some r := H
  have A2 := Aside0.mk A20
  clear A20
  obtain rfl := Option.some.inj H
  go_enter Tryd.func48, Tryd.ntmps48
  go_wp2_with (first | ((with_reducible refine gate_callee (f := 56) rfl ?_); refine goesL_ (some 4) rfl rfl Tryd.func56 (by kernel_rfl) rfl #[.int .i64 a0, .int .i64 10] rfl (by (try simp only [List.map_toArray, List.map_cons, List.map_nil]); first | done | rfl | (simp only [List.length_drop, List.length_take]; rfl)) ?_; (with_reducible refine (strconv_FormatInt.calls a0 10 t107 _ A2.out).mono ?_); rintro e w' ⟨rfl, ⟨nd, rfl⟩⟩; refine ⟨_, rfl, ?_⟩))
  go_ret
  exact ⟨by first | rfl | (simp; done) | (simp [*]; done), by repeat (first | exact Drawn0.refl _ | apply Drawn0.step)⟩

/-! ### strconv_Itoa_38: function 38 -/
def strconv_Itoa_38.f (a0 : Int) : Option (ByteArray) := (strconv_Itoa_48.f a0).bind fun t108 => (some t108)
set_option maxHeartbeats 8000000 in
set_option maxRecDepth 100000 in
theorem strconv_Itoa_38.calls (a0 : Int) (r : ByteArray) (w : World) (h : strconv_Itoa_38.f a0 = some r) :
    Calls Tryd.prog 38 #[.int .i64 a0] w fun e w' => e = .returned (.string r) ∧ Drawn0 w w' := by
  have H : ((strconv_Itoa_48.f a0).bind fun t108 => (some t108)) = some r := h
  clear h
  replace H := Option.bind_eq_some_iff.mp H
  obtain ⟨t108, A20, H⟩ := H
  replace H : (some t108) = some r := H
  have A2 := Aside0.mk A20
  clear A20
  obtain rfl := Option.some.inj H
  go_enter Tryd.func38, Tryd.ntmps38
  go_wp2_with (first | ((with_reducible refine gate_callee (f := 48) rfl ?_); refine goesL_ (some 4) rfl rfl Tryd.func48 (by kernel_rfl) rfl #[.int .i64 a0] rfl (by (try simp only [List.map_toArray, List.map_cons, List.map_nil]); first | done | rfl | (simp only [List.length_drop, List.length_take]; rfl)) ?_; (with_reducible refine (strconv_Itoa_48.calls a0 t108 _ A2.out).mono ?_); rintro e w' ⟨rfl, ⟨nd, rfl⟩⟩; refine ⟨_, rfl, ?_⟩))
  go_ret
  exact ⟨by first | rfl | (simp; done) | (simp [*]; done), by repeat (first | exact Drawn0.refl _ | apply Drawn0.step)⟩

/-! ### asset_ImageString: function 18 -/
def im_hex (n : Int) : Int := bt (⟨#[48, 49, 50, 51, 52, 53, 54, 55, 56, 57, 97, 98, 99, 100, 101, 102]⟩ : ByteArray) n
def im_out (W : Int) (L : List Int) : Nat → List Int
  | 0 => []
  | i + 1 => im_out W L i ++ im_hex (rd L i) :: (if ((i : Int) + 1) % W = 0 then [10] else [])
def im_head (sW sH : ByteArray) : ByteArray := (((((⟨#[105, 109, 97, 103, 101, 32]⟩ : ByteArray) ++ sW) ++ (⟨#[32]⟩ : ByteArray)) ++ sH) ++ (⟨#[10]⟩ : ByteArray))
theorem im_itoa (n : Int) (r : ByteArray) (w : World) (h : strconv_Itoa_38.f n = some r) : Calls Tryd.prog 38 #[.int .i64 n] w fun e w' => e = .returned (.string r) ∧ w' = w := by
  unfold strconv_Itoa_38.f strconv_Itoa_48.f strconv_FormatInt.f at h
  split at h
  case isFalse => simp at h
  rename_i hb
  obtain ⟨-, h0, h1⟩ := hb
  obtain ⟨i, rfl⟩ := Int.eq_ofNat_of_zero_le h0
  simp only [Option.bind_some, Option.some.injEq, Int.toNat_natCast] at h
  subst h
  have h2 : Calls Tryd.prog 56 #[.int .i64 (i : Int), .int .i64 10] w fun e w' => e = .returned (.string ⟨(Lib.decDigits i).toArray⟩) ∧ w' = w := by
    go_enter Tryd.func56, Tryd.ntmps56
    go_wp2_with (go_at_call 64; refine (fi_small i (by omega) _).mono ?_; rintro e w' ⟨rfl, rfl⟩)
    go_ret
    exact ⟨rfl, rfl⟩
  have h3 : Calls Tryd.prog 48 #[.int .i64 (i : Int)] w fun e w' => e = .returned (.string ⟨(Lib.decDigits i).toArray⟩) ∧ w' = w := by
    go_enter Tryd.func48, Tryd.ntmps48
    go_wp2_with (go_at_call 56; refine h2.mono ?_; rintro e w' ⟨rfl, hw⟩; rw [hw])
    go_ret
    exact ⟨rfl, rfl⟩
  go_enter Tryd.func38, Tryd.ntmps38
  go_wp2_with (go_at_call 48; refine h3.mono ?_; rintro e w' ⟨rfl, hw⟩; rw [hw])
  go_ret
  exact ⟨rfl, rfl⟩
theorem im_info : (Tryd.prog.info? 5).map (fun i => (i.zero, i.size, i.bytes)) = some (some (.int .u8 0), 1, 1) := by kernel_rfl
theorem im_sz {w W : World} {o : Obj} (h : w.heap.size < W.heap.size) : w.heap.size + 1 ≤ (W.alloc o).heap.size := by simp; omega
theorem im_c0 {w W : World} {x y z : Value} {T : TypeId} (h : W.heap[w.heap.size]? = some (.cells #[x, y, z] T (0, 0))) : W.cell? ⟨w.heap.size, 0, none⟩ = some x := by simp [World.cell?, h]
theorem im_step1 {H : List Int} {W : Int} {L : List Int} {j : Nat} {n : Int} (hn : rd L j = n) (hm : ((j : Int) + 1) % W = 0) : ((H ++ im_out W L j).map (Value.int .u8) ++ [.int .u8 (im_hex n)]) ++ [.int .u8 10] = (H ++ im_out W L (j + 1)).map (Value.int .u8) := by
  rw [im_out, if_pos hm, hn]; simp
theorem im_step2 {H : List Int} {W : Int} {L : List Int} {j : Nat} {n : Int} (hn : rd L j = n) (hm : ¬ ((j : Int) + 1) % W = 0) : (H ++ im_out W L j).map (Value.int .u8) ++ [.int .u8 (im_hex n)] = (H ++ im_out W L (j + 1)).map (Value.int .u8) := by
  rw [im_out, if_neg hm, hn]; simp
theorem im_mem {L : List Int} {j : Nat} (h : j < L.length) : rd L (j : Int) ∈ L := by
  unfold rd
  rw [Int.toNat_natCast, List.getD_eq_getElem?_getD, List.getElem?_eq_getElem h, Option.getD_some]
  exact List.getElem_mem _
theorem im_cell1 {w : World} {x : Value} {t : TypeId} : ∀ j u, [x][j]? = some u → (w.alloc (.cells #[x] t)).cell? ((⟨w.heap.size, 0, none⟩ : Addr).add j) = some u := by
  intro j u h
  cases j with
  | zero =>
    simp only [List.getElem?_cons_zero, Option.some.injEq] at h
    subst h
    have e : (⟨w.heap.size, 0, none⟩ : Addr).add 0 = ⟨w.heap.size, 0, none⟩ := by unfold Addr.add; rfl
    rw [e]
    have := heap_alloc_new w (.cells #[x] t)
    unfold World.cell?
    rw [this]; rfl
  | succ j => simp at h
theorem im_len (W : Int) (L : List Int) : ∀ j, (im_out W L j).length ≤ 2 * j
  | 0 => by simp [im_out]
  | j + 1 => by
    have := im_len W L j
    unfold im_out
    rw [List.length_append, List.length_cons]
    split <;> simp <;> omega
theorem im_keepB {w W W' : World} {o : Obj} {v : Value} {xs : List Value} {e : TypeId} (h : Below w.heap.size w W) (ho : Go.Proofs.YthagabjcoknogaaDoor.Mark.Owns W (w.heap.size + 1) e v xs) (hg : (W.alloc o).grownBy W' v.ownBlock) : Below w.heap.size w W' := by
  have h2 : Below w.heap.size w (W.alloc o) := below_alloc h o
  refine ⟨hg.os.trans h2.os, hg.tape.trans h2.tape, hg.output.trans h2.output, Nat.le_trans h2.size hg.size, fun k hk => (hg.block k (Nat.lt_of_lt_of_le hk h2.size) (fun e => ?_)).trans (h2.block k hk)⟩
  have := (ho.lt k e.symm).1
  omega
theorem im_keepA {w W W' : World} {o : Obj} {v : Value} {xs : List Value} {e : TypeId} {x : Obj} (h : W.heap[w.heap.size]? = some x) (ho : Go.Proofs.YthagabjcoknogaaDoor.Mark.Owns W (w.heap.size + 1) e v xs) (hg : (W.alloc o).grownBy W' v.ownBlock) : W'.heap[w.heap.size]? = some x := by
  have hlt : w.heap.size < W.heap.size := lt_of_block h
  refine (hg.block _ (by simp; omega) (fun e => ?_)).trans ((Below.heap_alloc _ _ _ hlt).trans h)
  have := (ho.lt _ e.symm).1
  omega
set_option maxHeartbeats 2000000 in
set_option maxRecDepth 100000 in
theorem im_walk (k : Nat) (a0_0 a0_1 : Int) (A0_2 : Option Addr) (c0_2 : Nat) (l0_2 : List Int) (sW sH : ByteArray) (w : World) (hr0_2 : Kd.C (Kd.int .i64) w A0_2 l0_2.length l0_2) (hc0_2 : l0_2.length ≤ c0_2)
    (hck : asset_CheckImage.f k a0_0 a0_1 l0_2 = some 0) (hW : strconv_Itoa_38.f a0_0 = some sW) (hH : strconv_Itoa_38.f a0_1 = some sH) (w0 : 1 ≤ a0_0) (w1 : a0_0 ≤ 64) (hl : l0_2.length ≤ 4225) (hx : ∀ x ∈ l0_2, 0 ≤ x ∧ x ≤ 15) (z1 : sW.size ≤ 100) (z2 : sH.size ≤ 100) :
    Calls Tryd.prog 18 #[.agg #[.int .i64 a0_0, .int .i64 a0_1, .slice A0_2 l0_2.length c0_2]] w fun e w' => e = .returned (.tuple #[.string (strOfNums ((im_head sW sH).data.toList.map (fun c => (c.toNat : Int)) ++ im_out a0_0 l0_2 l0_2.length)), .int .i64 0]) ∧ Below w.heap.size w w' := by
  have HR := Aside0.mk hr0_2
  have HC := Aside0.mk hc0_2
  have HK := Aside0.mk hck
  have HW := Aside0.mk hW
  have HH := Aside0.mk hH
  have HX := Aside0.mk hx
  clear hr0_2 hc0_2 hck hW hH hx
  go_enter Tryd.func18, Tryd.ntmps18
  go_wp2_with fail
  refine (asset_CheckImage.calls k a0_0 a0_1 _ _ l0_2 0 _ (Kd.C_below HR.out (below_alloc (Below.refl _ _) _)) HC.out HK.out).mono ?_
  rintro e v1 ⟨rfl, hb1⟩
  have hA : v1.heap[w.heap.size]? = some (.cells #[.int .i64 a0_0, .int .i64 a0_1, .slice A0_2 l0_2.length c0_2] 48 (0, 0)) := (hb1.block _ (by simp)).trans (heap_alloc_new w _)
  have hB : Below w.heap.size w v1 := (below_alloc (Below.refl _ _) _).trans (hb1.mono (by simp))
  have c0 : v1.cell? ⟨w.heap.size, 0, none⟩ = some (.int .i64 a0_0) := by simp [World.cell?, hA]
  have c1 : v1.cell? ⟨w.heap.size, 1, none⟩ = some (.int .i64 a0_1) := by simp [World.cell?, hA]
  have c2 : v1.cell? ⟨w.heap.size, 2, none⟩ = some (.slice A0_2 l0_2.length c0_2) := by simp [World.cell?, hA]
  have HA := Aside0.mk hA
  have HB := Aside0.mk hB
  clear hA hB hb1
  go_wp2_with fail
  have s1 : (9223372036854775807 < 6 + sW.size) = False := eq_false (by omega)
  have s2 : (9223372036854775807 < 6 + sW.size + 1) = False := eq_false (by omega)
  have s2' : (9223372036854775806 < 6 + sW.size) = False := eq_false (by omega)
  have s3 : (9223372036854775807 < 6 + sW.size + 1 + sH.size) = False := eq_false (by omega)
  have s4 : (9223372036854775807 < 6 + sW.size + 1 + sH.size + 1) = False := eq_false (by omega)
  have s4' : (9223372036854775806 < 6 + sW.size + 1 + sH.size) = False := eq_false (by omega)
  go_still_tail 10, (by kernel_rfl)
  still_call (im_itoa _ _ _ HW.out)
  repeat still_step
  still_call (im_itoa _ _ _ HH.out)
  repeat still_step
  refine wpStill_nil ?_
  change wpList _ _ _ _ _ v1.drew
  have hS : (im_head sW sH).size ≤ 1000 := by
    unfold im_head; simp only [ByteArray.size_append]
    have q1 : (⟨#[105, 109, 97, 103, 101, 32]⟩ : ByteArray).size = 6 := rfl
    have q2 : (⟨#[32]⟩ : ByteArray).size = 1 := rfl
    have q3 : (⟨#[10]⟩ : ByteArray).size = 1 := rfl
    omega
  have hlt : w.heap.size < v1.heap.size := lt_of_block HA.out
  obtain ⟨vO, v2, hrun, HO, HB2, HA2⟩ : ∃ vO v2, (convert 9 62 (.string ((((({ data := #[105, 109, 97, 103, 101, 32] } : ByteArray) ++ sW) ++ { data := #[32] }) ++ sH) ++ { data := #[10] }))).run Tryd.prog v1.drew = .ok vO v2 ∧
      Aside0 (Go.Proofs.YthagabjcoknogaaDoor.Mark.Owns v2 (w.heap.size + 1) 5 vO (((im_head sW sH).data.toList.map (fun c => (c.toNat : Int)) ++ im_out a0_0 l0_2 0).map (Value.int .u8))) ∧ Aside0 (Below w.heap.size w v2) ∧
      Aside0 (v2.heap[w.heap.size]? = some (.cells #[.int .i64 a0_0, .int .i64 a0_1, .slice A0_2 l0_2.length c0_2] 48 (0, 0))) := by
    refine ⟨_, _, Lib.run_convert_string_bytes (P := Tryd.prog) v1.drew 9 62 5 (im_head sW sH) Tryd.underlying9 Tryd.underlying62 Tryd.underlying5, ⟨?_⟩, ⟨?_⟩, ⟨?_⟩⟩
    · have := Go.Proofs.YthagabjcoknogaaDoor.Mark.owns_conv v1.drew (w.heap.size + 1) 5 (im_head sW sH) (show w.heap.size + 1 ≤ v1.heap.size by omega) (by unfold maxLen; omega)
      have e : ((im_head sW sH).data.toList.map (fun c => (c.toNat : Int)) ++ im_out a0_0 l0_2 0).map (Value.int .u8) = Go.Proofs.YthagabjcoknogaaDoor.Mark.byteCells (im_head sW sH) := by
        unfold im_out Go.Proofs.YthagabjcoknogaaDoor.Mark.byteCells; simp
      rw [e]; exact this
    · exact Go.Proofs.YthagabjcoknogaaDoor.Mark.below_conv (below_drew1 HB.out) (show w.heap.size ≤ v1.heap.size by omega) 5 _
    · exact (Lib.bytesWorld_at_old v1.drew 5 _ _ (show w.heap.size < v1.heap.size by omega)).trans HA.out
  clear s1 s2 s2' s3 s4 s4' c0 c1 c2 HA HB hlt
  have c2 : v2.cell? ⟨w.heap.size, 2, none⟩ = some (.slice A0_2 l0_2.length c0_2) := by simp [World.cell?, HA2.out]
  go_wp2_with fail
  clear hrun c2
  go_loopw [5, 27] (fun v i wr => ∃ j : Nat, j ≤ l0_2.length ∧ i = .int .i64 j ∧ Aside0 (Go.Proofs.YthagabjcoknogaaDoor.Mark.Owns wr (w.heap.size + 1) 5 v (((im_head sW sH).data.toList.map (fun c => (c.toNat : Int)) ++ im_out a0_0 l0_2 j).map (Value.int .u8))) ∧ Aside0 (Below w.heap.size w wr) ∧
      Aside0 (wr.heap[w.heap.size]? = some (.cells #[.int .i64 a0_0, .int .i64 a0_1, .slice A0_2 l0_2.length c0_2] 48 (0, 0)))) (fun _ i _ => l0_2.length - (intOf i).toNat)
  case atStart => exact ⟨0, Nat.zero_le _, rfl, HO, HB2, HA2⟩
  case round =>
    clear HO HB2 HA2
    obtain ⟨j, hj, rfl, HO, HB, HA⟩ := hrel
    by_cases hlt : j < l0_2.length
    · obtain ⟨ad, rfl, hcell⟩ := Kd.at_int (Kd.C_below HR.out HB.out) j (by omega) (by omega)
      have hcell' : wr.cell? (ad.add j) = some (.int .i64 (rd l0_2 j)) := by simpa using hcell
      clear hcell
      have c0 : wr.cell? ⟨w.heap.size, 0, none⟩ = some (.int .i64 a0_0) := by simp [World.cell?, HA.out]
      have hxd := bt_at (⟨#[48, 49, 50, 51, 52, 53, 54, 55, 56, 57, 97, 98, 99, 100, 101, 102]⟩ : ByteArray) (rd l0_2 j)
      have hn := HX.out (rd l0_2 j) (im_mem hlt)
      obtain ⟨n0, n1⟩ := hn
      have hwl : w.heap.size < wr.heap.size := lt_of_block HA.out
      generalize hnn : rd l0_2 j = n at *
      have hhl : (im_head sW sH).data.toList.length ≤ 1000 := by rw [← Lib.size_eq]; exact hS
      have hnn' := Aside0.mk hnn
      clear hnn
      by_cases hm : ((j : Int) + 1) % a0_0 = 0
      · have e1 : ((((j : Int) + 1) % a0_0) == 0) = true := beq_iff_eq.2 hm
        have e2 : decide ((((j : Int) + 1) % a0_0) = 0) = true := decide_eq_true hm
        have HM := Aside0.mk hm
        clear hm
        go_wp2_with (first | ((with_reducible refine gate_builtin (b := .append) (xs := #[.tmp 32, .tmp 35]) rfl ?_); at_builtin; refine Go.Proofs.YthagabjcoknogaaDoor.Mark.wpList_append rfl (.tmp 32) (.tmp 35) 62 rfl (w.heap.size + 1) 5 Tryd.underlying62 im_info u5 (((im_head sW sH).data.toList.map (fun c => (c.toNat : Int)) ++ im_out a0_0 l0_2 j).map (Value.int .u8)) rfl ?o32 ⟨wr.heap.size, 0, none⟩ 1 1 [.int .u8 (im_hex n)] rfl rfl ?c32 ?h32 ?l32 ?s32 ?_; (case o32 => exact HO.out.below (below_alloc (Below.refl _ _) _)); (case c32 => exact im_cell1); (case h32 => simp [Value.oneCell']); (case l32 => simp only [List.length_map, List.length_append, List.length_cons, List.length_nil]; have := im_len a0_0 l0_2 j; omega); (case s32 => exact im_sz hwl); intro v32 W32 ho hg; have n0_ := Aside0.mk (im_keepB HB.out HO.out hg); have n1_ := Aside0.mk (im_keepA HA.out HO.out hg); have n2_ := Aside0.mk ho; clear HB HA HO ho hg hwl c0; have HB := n0_; have HA := n1_; have HO := n2_; clear n0_ n1_ n2_; have hwl : w.heap.size < W32.heap.size := lt_of_block HA.out; have c0 : W32.cell? ⟨w.heap.size, 0, none⟩ = some (.int .i64 a0_0) := im_c0 HA.out) | ((with_reducible refine gate_builtin (b := .append) (xs := #[.tmp 43, .tmp 44]) rfl ?_); at_builtin; refine Go.Proofs.YthagabjcoknogaaDoor.Mark.wpList_append rfl (.tmp 43) (.tmp 44) 62 rfl (w.heap.size + 1) 5 Tryd.underlying62 im_info v32 ((((im_head sW sH).data.toList.map (fun c => (c.toNat : Int)) ++ im_out a0_0 l0_2 j).map (Value.int .u8)) ++ [.int .u8 (im_hex n)]) rfl ?o43 ⟨W32.heap.size, 0, none⟩ 1 1 [.int .u8 10] rfl rfl ?c43 ?h43 ?l43 ?s43 ?_; (case o43 => exact HO.out.below (below_alloc (Below.refl _ _) _)); (case c43 => exact im_cell1); (case h43 => simp [Value.oneCell']); (case l43 => simp only [List.length_map, List.length_append, List.length_cons, List.length_nil]; have := im_len a0_0 l0_2 j; omega); (case s43 => exact im_sz hwl); intro v43 W43 ho hg; have n0_ := Aside0.mk (im_keepB HB.out HO.out hg); have n1_ := Aside0.mk (im_keepA HA.out HO.out hg); have n2_ := Aside0.mk ho; clear HB HA HO ho hg hwl c0; have HB := n0_; have HA := n1_; have HO := n2_; clear n0_ n1_ n2_; have hwl : w.heap.size < W43.heap.size := lt_of_block HA.out; have c0 : W43.cell? ⟨w.heap.size, 0, none⟩ = some (.int .i64 a0_0) := im_c0 HA.out))
        go_roundw
        case rel => exact ⟨j + 1, by omega, by go_num, ⟨im_step1 hnn'.out HM.out ▸ HO.out⟩, HB, HA⟩
        case measure => simp [intOf]; omega
      · have e1 : ((((j : Int) + 1) % a0_0) == 0) = false := beq_eq_false_iff_ne.2 hm
        have e2 : decide ((((j : Int) + 1) % a0_0) = 0) = false := decide_eq_false hm
        have HM := Aside0.mk hm
        clear hm
        go_wp2_with (first | ((with_reducible refine gate_builtin (b := .append) (xs := #[.tmp 32, .tmp 35]) rfl ?_); at_builtin; refine Go.Proofs.YthagabjcoknogaaDoor.Mark.wpList_append rfl (.tmp 32) (.tmp 35) 62 rfl (w.heap.size + 1) 5 Tryd.underlying62 im_info u5 (((im_head sW sH).data.toList.map (fun c => (c.toNat : Int)) ++ im_out a0_0 l0_2 j).map (Value.int .u8)) rfl ?o32 ⟨wr.heap.size, 0, none⟩ 1 1 [.int .u8 (im_hex n)] rfl rfl ?c32 ?h32 ?l32 ?s32 ?_; (case o32 => exact HO.out.below (below_alloc (Below.refl _ _) _)); (case c32 => exact im_cell1); (case h32 => simp [Value.oneCell']); (case l32 => simp only [List.length_map, List.length_append, List.length_cons, List.length_nil]; have := im_len a0_0 l0_2 j; omega); (case s32 => exact im_sz hwl); intro v32 W32 ho hg; have n0_ := Aside0.mk (im_keepB HB.out HO.out hg); have n1_ := Aside0.mk (im_keepA HA.out HO.out hg); have n2_ := Aside0.mk ho; clear HB HA HO ho hg hwl c0; have HB := n0_; have HA := n1_; have HO := n2_; clear n0_ n1_ n2_; have hwl : w.heap.size < W32.heap.size := lt_of_block HA.out; have c0 : W32.cell? ⟨w.heap.size, 0, none⟩ = some (.int .i64 a0_0) := im_c0 HA.out) | ((with_reducible refine gate_builtin (b := .append) (xs := #[.tmp 43, .tmp 44]) rfl ?_); at_builtin; refine Go.Proofs.YthagabjcoknogaaDoor.Mark.wpList_append rfl (.tmp 43) (.tmp 44) 62 rfl (w.heap.size + 1) 5 Tryd.underlying62 im_info v32 ((((im_head sW sH).data.toList.map (fun c => (c.toNat : Int)) ++ im_out a0_0 l0_2 j).map (Value.int .u8)) ++ [.int .u8 (im_hex n)]) rfl ?o43 ⟨W32.heap.size, 0, none⟩ 1 1 [.int .u8 10] rfl rfl ?c43 ?h43 ?l43 ?s43 ?_; (case o43 => exact HO.out.below (below_alloc (Below.refl _ _) _)); (case c43 => exact im_cell1); (case h43 => simp [Value.oneCell']); (case l43 => simp only [List.length_map, List.length_append, List.length_cons, List.length_nil]; have := im_len a0_0 l0_2 j; omega); (case s43 => exact im_sz hwl); intro v43 W43 ho hg; have n0_ := Aside0.mk (im_keepB HB.out HO.out hg); have n1_ := Aside0.mk (im_keepA HA.out HO.out hg); have n2_ := Aside0.mk ho; clear HB HA HO ho hg hwl c0; have HB := n0_; have HA := n1_; have HO := n2_; clear n0_ n1_ n2_; have hwl : w.heap.size < W43.heap.size := lt_of_block HA.out; have c0 : W43.cell? ⟨w.heap.size, 0, none⟩ = some (.int .i64 a0_0) := im_c0 HA.out))
        go_roundw
        case rel => exact ⟨j + 1, by omega, by go_num, ⟨im_step2 hnn'.out HM.out ▸ HO.out⟩, HB, HA⟩
        case measure => simp [intOf]; omega
    · obtain rfl : j = l0_2.length := by omega
      have hcv := Go.Proofs.YthagabjcoknogaaDoor.Mark.to_string (P := Tryd.prog) (src := 62) (dst := 9) Tryd.underlying62 Tryd.underlying5 Tryd.underlying9 HO.out
      go_wp2_with fail
      go_ret2
      exact ⟨rfl, HB.out⟩
def asset_ImageString.f (k : Nat) (a0_0 a0_1 : Int) (l0_2 : List Int) : Option (ByteArray × Int) :=
  (asset_CheckImage.f k a0_0 a0_1 l0_2).bind fun e => if e = 0 then ((strconv_Itoa_38.f a0_0).bind fun sW => (strconv_Itoa_38.f a0_1).bind fun sH =>
    if 1 ≤ a0_0 ∧ a0_0 ≤ 64 ∧ l0_2.length ≤ 4225 ∧ (∀ x ∈ l0_2, 0 ≤ x ∧ x ≤ 15) ∧ sW.size ≤ 100 ∧ sH.size ≤ 100 then some (strOfNums ((im_head sW sH).data.toList.map (fun c => (c.toNat : Int)) ++ im_out a0_0 l0_2 l0_2.length), 0) else none) else some (⟨#[]⟩, e)
theorem asset_ImageString.mono : ∀ a0 a1 a2 k, LeO (asset_ImageString.f k a0 a1 a2) (asset_ImageString.f (k + 1) a0 a1 a2) := by
  intro a0 a1 a2 k
  unfold asset_ImageString.f
  exact LeO.bind (asset_CheckImage.mono _ _ _ _) (fun _ => LeO.refl _)
set_option maxHeartbeats 2000000 in
set_option maxRecDepth 100000 in
theorem im_bad (k : Nat) (a0_0 a0_1 : Int) (A0_2 : Option Addr) (c0_2 : Nat) (l0_2 : List Int) (e : Int) (w : World) (hr0_2 : Kd.C (Kd.int .i64) w A0_2 l0_2.length l0_2) (hc0_2 : l0_2.length ≤ c0_2)
    (hck : asset_CheckImage.f k a0_0 a0_1 l0_2 = some e) (he : e ≠ 0) :
    Calls Tryd.prog 18 #[.agg #[.int .i64 a0_0, .int .i64 a0_1, .slice A0_2 l0_2.length c0_2]] w fun e' w' => e' = .returned (.tuple #[.string ⟨#[]⟩, .int .i64 e]) ∧ Below w.heap.size w w' := by
  have HR := Aside0.mk hr0_2
  have HC := Aside0.mk hc0_2
  have HK := Aside0.mk hck
  have e1 : (e == 0) = false := beq_eq_false_iff_ne.2 he
  have e2 : (e != 0) = true := bne_iff_ne.2 he
  clear hr0_2 hc0_2 hck
  go_enter Tryd.func18, Tryd.ntmps18
  go_wp2_with fail
  refine (asset_CheckImage.calls k a0_0 a0_1 _ _ l0_2 e _ (Kd.C_below HR.out (below_alloc (Below.refl _ _) _)) HC.out HK.out).mono ?_
  rintro e' v1 ⟨rfl, hb1⟩
  have HB := Aside0.mk ((below_alloc (Below.refl w.heap.size w) (.cells #[.int .i64 a0_0, .int .i64 a0_1, .slice A0_2 l0_2.length c0_2] 48 (0, 0))).trans (hb1.mono (by simp)))
  clear hb1
  go_wp2_with fail
  go_ret2
  exact ⟨rfl, HB.out⟩
theorem asset_ImageString.calls (k : Nat) (a0_0 : Int) (a0_1 : Int) (A0_2 : Option Addr) (c0_2 : Nat) (l0_2 : List Int) (r1 : ByteArray) (r2 : Int) (w : World) (hr0_2 : Kd.C (Kd.int .i64) w A0_2 l0_2.length l0_2) (hc0_2 : l0_2.length ≤ c0_2) (h : asset_ImageString.f k a0_0 a0_1 l0_2 = some (r1, r2)) :
    Calls Tryd.prog 18 #[.agg #[.int .i64 a0_0, .int .i64 a0_1, .slice A0_2 l0_2.length c0_2]] w fun e w' => e = .returned (.tuple #[.string r1, .int .i64 r2]) ∧ Below w.heap.size w w' := by
  unfold asset_ImageString.f at h
  obtain ⟨e, hck, h⟩ := Option.bind_eq_some_iff.1 h
  by_cases he : e = 0
  · subst he
    rw [if_pos rfl] at h
    obtain ⟨sW, hW, h⟩ := Option.bind_eq_some_iff.1 h
    obtain ⟨sH, hH, h⟩ := Option.bind_eq_some_iff.1 h
    split at h
    case isFalse => cases h
    rename_i hb
    obtain ⟨b1, b2, b3, b4, b5, b6⟩ := hb
    simp only [Option.some.injEq, Prod.mk.injEq] at h
    obtain ⟨rfl, rfl⟩ := h
    exact im_walk k a0_0 a0_1 A0_2 c0_2 l0_2 sW sH w hr0_2 hc0_2 hck hW hH b1 b2 b3 b4 b5 b6
  · rw [if_neg he] at h
    simp only [Option.some.injEq, Prod.mk.injEq] at h
    obtain ⟨rfl, rfl⟩ := h
    exact im_bad k a0_0 a0_1 A0_2 c0_2 l0_2 e w hr0_2 hc0_2 hck he

/-! ### strings_Cut: function 35 -/
def strings_Cut.f (a0 a1 : ByteArray) : Option (ByteArray × ByteArray × Bool) :=
  if a1.size = 1 ∧ a0.size ≤ 1000000000000 then
    if Lib.indexByte a0.data.toList (a1.data.toList.headD 0) < 0 then some (a0, ⟨#[]⟩, false)
    else some (a0.extract 0 (Lib.indexByte a0.data.toList (a1.data.toList.headD 0)).toNat, a0.extract ((Lib.indexByte a0.data.toList (a1.data.toList.headD 0)).toNat + 1) a0.size, true)
  else none
theorem ct_ext {a b : ByteArray} (h : a.data.toList = b.data.toList) : a = b := by
  cases a; cases b; congr; exact Array.toList_inj.1 h
theorem ct_one {a : ByteArray} (h : a.size = 1) : a = ⟨#[a.data.toList.headD 0]⟩ := by
  cases a with | mk d =>
  have h' : d.toList.length = 1 := by rw [Array.length_toList]; exact h
  obtain ⟨x, hx⟩ := List.length_eq_one_iff.1 h'
  apply ct_ext
  show d.toList = _
  rw [hx]; rfl
theorem ct_room {c : UInt8} : ∀ {l : List UInt8} {i : Nat}, Lib.indexByte l c = i → i < l.length
  | [], i, h => by unfold Lib.indexByte at h; omega
  | x :: xs, i, h => by
    unfold Lib.indexByte at h
    by_cases e : x = c
    · rw [if_pos (by simp [e])] at h
      obtain rfl : i = 0 := by omega
      simp
    · rw [if_neg (by simpa using e)] at h
      have hg := Lib.indexByte_ge xs c
      by_cases q : Lib.indexByte xs c = -1
      · rw [if_pos (by simp [q])] at h; omega
      · rw [if_neg (by simpa using q)] at h
        obtain ⟨j, rfl⟩ : ∃ j, i = j + 1 := ⟨i - 1, by omega⟩
        have := ct_room (c := c) (l := xs) (i := j) (by omega)
        simpa using this
set_option maxHeartbeats 2000000 in
set_option maxRecDepth 100000 in
theorem ct_inner (a0 : ByteArray) (c : UInt8) (r1 r2 : ByteArray) (r3 : Bool) (w : World) (hs : a0.size ≤ 1000000000000)
    (h : (if Lib.indexByte a0.data.toList c < 0 then some (a0, (⟨#[]⟩ : ByteArray), false) else some (a0.extract 0 (Lib.indexByte a0.data.toList c).toNat, a0.extract ((Lib.indexByte a0.data.toList c).toNat + 1) a0.size, true)) = some (r1, r2, r3)) :
    Calls Tryd.prog 46 #[.string a0, .string ⟨#[c]⟩] w fun e w' => e = .returned (.tuple #[.string r1, .string r2, .bool r3]) ∧ Drawn0 w w' := by
  have hI := Shelf.stringslite_Index_one a0 c w
  by_cases hix : Lib.indexByte a0.data.toList c < 0
  · rw [if_pos hix] at h
    simp only [Option.some.injEq, Prod.mk.injEq] at h
    obtain ⟨rfl, rfl, rfl⟩ := h
    obtain ⟨i, hi⟩ : ∃ i : Int, Lib.indexByte a0.data.toList c = i := ⟨_, rfl⟩
    rw [hi] at hI hix
    clear hi
    go_enter Tryd.func46, Tryd.ntmps46
    go_wp2_with (go_at_call 55; refine hI.mono ?_; rintro e w' ⟨rfl, hw⟩; rw [hw])
    go_ret3
    exact ⟨rfl, Drawn0.refl _⟩
  · rw [if_neg hix] at h
    obtain ⟨i, hi⟩ := Int.eq_ofNat_of_zero_le (show 0 ≤ Lib.indexByte a0.data.toList c by omega)
    have hroom := ct_room hi
    rw [← Lib.size_eq] at hroom
    rw [hi] at hI h
    simp only [Option.some.injEq, Prod.mk.injEq, Int.toNat_natCast] at h
    obtain ⟨rfl, rfl, rfl⟩ := h
    have c0 : (0 : Int) ≤ (i : Int) := by omega
    have c1 : (i : Int) ≤ (a0.size : Int) := by omega
    have c2 : (0 : Int) ≤ (i : Int) + 1 := by omega
    have c3 : (i : Int) + 1 ≤ (a0.size : Int) := by omega
    clear hi hix
    go_enter Tryd.func46, Tryd.ntmps46
    go_wp2_with (go_at_call 55; refine hI.mono ?_; rintro e w' ⟨rfl, hw⟩; rw [hw])
    go_quiet (fail)
    go_wp2
    go_ret3
    exact ⟨rfl, ⟨⟨_, rfl⟩⟩⟩
theorem strings_Cut.calls (a0 a1 r1 r2 : ByteArray) (r3 : Bool) (w : World) (h : strings_Cut.f a0 a1 = some (r1, r2, r3)) :
    Calls Tryd.prog 35 #[.string a0, .string a1] w fun e w' => e = .returned (.tuple #[.string r1, .string r2, .bool r3]) ∧ Drawn0 w w' := by
  unfold strings_Cut.f at h
  split at h
  case isFalse => cases h
  rename_i hb
  have h1 := ct_one hb.1
  generalize a1.data.toList.headD 0 = c at *
  subst h1
  have H := Aside0.mk h
  clear h
  go_enter Tryd.func35, Tryd.ntmps35
  go_wp2_with (go_at_call 46; refine (ct_inner a0 c r1 r2 r3 _ hb.2 H.out).mono ?_; rintro e w' ⟨rfl, ⟨⟨n, rfl⟩⟩⟩)
  go_ret3
  exact ⟨rfl, ⟨⟨n, rfl⟩⟩⟩

/-! ### strings_Split: function 39 -/
/-- A text's pieces between the bytes c. -/
def cutAll (c : UInt8) : List UInt8 → List (List UInt8)
  | [] => [[]]
  | x :: xs => if x = c then [] :: cutAll c xs else (x :: (cutAll c xs).headD []) :: (cutAll c xs).tail
theorem cutAll_ne (c : UInt8) (l : List UInt8) : cutAll c l ≠ [] := by
  cases l with
  | nil => simp [cutAll]
  | cons x xs => unfold cutAll; split <;> simp
theorem cutAll_len (c : UInt8) (l : List UInt8) : (cutAll c l).length = Lib.countByte l c + 1 := by
  induction l with
  | nil => rfl
  | cons x xs ih =>
    have := List.length_pos_iff.2 (cutAll_ne c xs)
    unfold Lib.countByte at *
    unfold cutAll
    by_cases h : x = c
    · subst h; rw [if_pos rfl, List.length_cons, ih, List.count_cons_self]
    · rw [if_neg h, List.length_cons, List.length_tail, List.count_cons_of_ne (fun e => h e), ih]; omega
theorem cutAll_miss {c : UInt8} {l : List UInt8} (h : Lib.indexByte l c = -1) : cutAll c l = [l] := by
  induction l with
  | nil => rfl
  | cons x xs ih =>
    unfold Lib.indexByte at h
    by_cases e : x = c
    · rw [if_pos (by simp [e])] at h; exact absurd h (by decide)
    · rw [if_neg (by simpa using e)] at h
      have hg := Lib.indexByte_ge xs c
      have : Lib.indexByte xs c = -1 := by
        by_cases q : Lib.indexByte xs c = -1
        · exact q
        · rw [if_neg (by simpa using q)] at h; omega
      unfold cutAll
      rw [if_neg e, ih this]; rfl
theorem cutAll_hit {c : UInt8} : ∀ {l : List UInt8} {i : Nat}, Lib.indexByte l c = i → i < l.length ∧ cutAll c l = l.take i :: cutAll c (l.drop (i + 1))
  | [], i, h => by unfold Lib.indexByte at h; omega
  | x :: xs, i, h => by
    unfold Lib.indexByte at h
    by_cases e : x = c
    · rw [if_pos (by simp [e])] at h
      obtain rfl : i = 0 := by omega
      refine ⟨by simp, ?_⟩
      rw [cutAll, if_pos e]; rfl
    · rw [if_neg (by simpa using e)] at h
      have hg := Lib.indexByte_ge xs c
      by_cases q : Lib.indexByte xs c = -1
      · rw [if_pos (by simp [q])] at h; omega
      · rw [if_neg (by simpa using q)] at h
        obtain ⟨j, rfl⟩ : ∃ j, i = j + 1 := ⟨i - 1, by omega⟩
        obtain ⟨h1, h2⟩ := cutAll_hit (c := c) (l := xs) (i := j) (by omega)
        refine ⟨by simpa using h1, ?_⟩
        rw [cutAll, if_neg e, h2]; rfl
def cutB (c : UInt8) (s : ByteArray) : List ByteArray := (cutAll c s.data.toList).map fun l => ⟨l.toArray⟩
theorem bytes_ext {a b : ByteArray} (h : a.data.toList = b.data.toList) : a = b := by
  cases a; cases b; congr; exact Array.toList_inj.1 h
theorem cutB_miss {c : UInt8} {s : ByteArray} (h : Lib.indexByte s.data.toList c = -1) : cutB c s = [s] := by
  unfold cutB; rw [cutAll_miss h]; rfl
theorem cutB_hit {c : UInt8} {s : ByteArray} {i : Nat} (h : Lib.indexByte s.data.toList c = i) : i < s.size ∧ cutB c s = s.extract 0 i :: cutB c (s.extract (i + 1) s.size) := by
  obtain ⟨h1, h2⟩ := cutAll_hit h
  refine ⟨by rw [Lib.size_eq]; exact h1, ?_⟩
  unfold cutB
  rw [h2, List.map_cons, Lib.extract_to_end]
  congr 1
  apply bytes_ext
  rw [Lib.extract_data]; simp
theorem cutB_len (c : UInt8) (s : ByteArray) : (cutB c s).length = Lib.countByte s.data.toList c + 1 := by unfold cutB; rw [List.length_map, cutAll_len]
theorem countByte_le (l : List UInt8) (c : UInt8) : Lib.countByte l c ≤ l.length := List.count_le_length
set_option maxHeartbeats 4000000 in
set_option maxRecDepth 100000 in
theorem sp_gen (s : ByteArray) (c : UInt8) (w : World) (hs : s.size ≤ 1000000000000) :
    Calls Tryd.prog 49 #[.string s, .string ⟨#[c]⟩, .int .i64 0, .int .i64 (-1)] w fun e w' =>
      e = .returned (.slice (some ⟨w.heap.size, 0, none⟩) (cutB c s).length (cutB c s).length) ∧ w' = w.alloc (.cells ((cutB c s).map Value.string).toArray 9) := by
  obtain ⟨N, hN⟩ : ∃ N : Nat, Lib.countByte s.data.toList c + 1 = N := ⟨_, rfl⟩
  have hNl : (cutB c s).length = N := by rw [cutB_len, hN]
  have hNs : N ≤ s.size + 1 := by rw [← hN, Lib.size_eq]; have := countByte_le s.data.toList c; omega
  have hN1 : 1 ≤ N := by omega
  have hmk := run_make_row' (P := Tryd.prog) 32 9 (.string ByteArray.empty) 16 Tryd.underlying32 (by kernel_rfl) rfl .i64 .i64 N (by omega) (by omega)
  have hcell : Lib.cellsOf (cutB c s) N = ((cutB c s).map Value.string).toArray := by unfold Lib.cellsOf; rw [hNl, Nat.sub_self]; simp
  rw [hNl, ← hcell]
  have hmin : min ((N : Int)) ((s.size : Int) + 1) = (N : Int) := by omega
  have hC := Shelf.strings_Count_one s c w
  rw [show ((Lib.countByte s.data.toList c : Nat) : Int) = (N : Int) - 1 by omega] at hC
  clear hN hcell
  go_enter Tryd.func49, Tryd.ntmps49
  go_wp2_with (first | (go_at_call 58; refine hC.mono ?_; rintro e w' ⟨rfl, hw⟩; rw [hw]))
  clear hmk hC
  go_loopg [0, 10] (N - 1) (fun g s0 s10 wr => ∃ (done : List ByteArray) (rest : ByteArray), s0 = .string rest ∧ s10 = .int .i64 done.length ∧ done.length ≤ N - 1 ∧ g = N - 1 - done.length ∧ rest.size ≤ s.size ∧
    wr = w.alloc (.cells (Lib.cellsOf done N) 9) ∧ done ++ cutB c rest = cutB c s)
  case atStart => exact ⟨[], s, rfl, rfl, Nat.zero_le _, rfl, Nat.le_refl _, by rw [Lib.cellsOf_nil], rfl⟩
  case round =>
    obtain ⟨done, rest, rfl, rfl, hd, rfl, hrs, rfl, hsp⟩ := hrel
    have hnext : (Lib.cellsOf done N)[done.length]? = some (.string ByteArray.empty) := Lib.cellsOf_next (by omega)
    have HS := Aside0.mk hsp
    have HL := Aside0.mk hNl
    clear hsp hNl
    have hlen : done.length + (cutB c rest).length = N := by rw [← List.length_append, HS.out, HL.out]
    have fin : cutB c rest = [rest] → (Lib.cellsOf done N).setIfInBounds done.length (.string rest) = Lib.cellsOf (cutB c s) N ∧ done.length + 1 = N := fun h => by
      have e := HS.out
      rw [h] at e hlen
      refine ⟨?_, by simpa using hlen⟩
      rw [← e]
      exact Lib.cellsOf_set (by omega) rest
    by_cases hix : Lib.indexByte rest.data.toList c = -1
    · obtain ⟨f1, f2⟩ := fin (cutB_miss hix)
      have hltz : ¬ (((done.length : Nat) : Int) < (N : Int) - 1) := by omega
      have FF := Aside0.mk f1
      clear fin f1
      go_wp2
      go_ret
      rw [← FF.out]
      exact ⟨by first | rfl | (congr 2 <;> omega), rfl⟩
    · have hge := Lib.indexByte_ge rest.data.toList c
      obtain ⟨i, hi⟩ := Int.eq_ofNat_of_zero_le (show 0 ≤ Lib.indexByte rest.data.toList c by omega)
      obtain ⟨hil, hcut⟩ := cutB_hit (c := c) (s := rest) hi
      have HC := Aside0.mk hcut
      have hpos : 1 ≤ (cutB c (rest.extract (i + 1) rest.size)).length := by rw [cutB_len]; omega
      rw [hcut, List.length_cons] at hlen
      have hltz : ((done.length : Nat) : Int) < (N : Int) - 1 := by omega
      have c0 : ¬ ((i : Int) < 0) := by omega
      have c4 : (↑i + 1 : Int) ≤ ↑rest.size := by omega
      have HI := Aside0.mk hi
      clear fin hcut hix hge hi
      go_wp2_with (first | (go_at_call 59; refine (Shelf.strings_Index_one rest c _).mono ?_; rintro e w' ⟨rfl, hw⟩; rw [hw, HI.out]))
      go_roundg (N - 1 - (done.length + 1))
      case measure => omega
      case rel =>
        refine ⟨done ++ [rest.extract 0 i], rest.extract (i + 1) rest.size, rfl, by simp, by simp; omega, by simp, by rw [ByteArray.size_extract]; omega, by rw [← Lib.cellsOf_set (by omega)], ?_⟩
        rw [← HS.out, HC.out]
        simp
def strings_Split.f (a0 a1 : ByteArray) : Option (List ByteArray) := if a1.size = 1 ∧ a0.size ≤ 1000000000000 then some (cutB (a1.data.toList.headD 0) a0) else none
theorem sp_one {a : ByteArray} (h : a.size = 1) : a = ⟨#[a.data.toList.headD 0]⟩ := by
  cases a with | mk d =>
  have h' : d.toList.length = 1 := by rw [Array.length_toList]; exact h
  obtain ⟨x, hx⟩ := List.length_eq_one_iff.1 h'
  apply bytes_ext
  show d.toList = _
  rw [hx]; rfl
set_option maxHeartbeats 1000000 in
theorem strings_Split.calls (a0 a1 : ByteArray) (r : List ByteArray) (w : World) (h : strings_Split.f a0 a1 = some r) :
    Calls Tryd.prog 39 #[.string a0, .string a1] w fun e w' => ∃ v0_ : Value, e = .returned v0_ ∧ Kd.R Kd.string 9 w' w.heap.size (fun _ => True) v0_ r ∧ Below w.heap.size w w' := by
  unfold strings_Split.f at h
  split at h
  case isFalse => cases h
  rename_i hb
  have hr := Option.some.inj h
  subst hr
  have h1 := sp_one hb.1
  generalize a1.data.toList.headD 0 = c at *
  subst h1
  clear h
  go_enter Tryd.func39, Tryd.ntmps39
  go_wp2_with (go_at_call 49; refine (sp_gen a0 c w hb.2).mono ?_; rintro e w' ⟨rfl, hw⟩; rw [hw])
  go_ret
  refine ⟨_, rfl, ?_, below_alloc (Below.refl _ _) _⟩
  refine Kd.R_of_own (enc := Value.string) (h1 := fun _ => rfl) ?_ (fun _ _ => trivial)
  have hl := cutB_len c a0
  have hc := countByte_le a0.data.toList c
  have hs := Lib.size_eq a0
  refine ⟨by simp [encs], .inr ⟨w.heap.size, (cutB c a0).length, _, rfl, Nat.le_refl _, heap_alloc_new w _, Nat.le_refl _, by unfold maxLen; omega, by simp, by simp [encs]; exact List.take_of_length_le (by simp)⟩⟩

/-! ### asset_isDigit: function 50 -/
def asset_isDigit.f (a0 : Int) : Option (Bool) := if a0 ≥ 48 then (some (decide (a0 ≤ 57))) else (some false)
set_option maxHeartbeats 8000000 in
set_option maxRecDepth 100000 in
theorem asset_isDigit.calls (a0 : Int) (r : Bool) (w : World) (h : asset_isDigit.f a0 = some r) :
    Calls Tryd.prog 50 #[.int .u8 a0] w fun e w' => e = .returned (.bool r) ∧ Drawn0 w w' := by
  have H : (if a0 ≥ 48 then (some (decide (a0 ≤ 57))) else (some false)) = some r := h
  clear h
  by_cases c2 : a0 ≥ 48
  · rw [if_pos c2] at H
    have c2b0 : decide (48 ≤ a0) = true := decide_eq_true c2
    clear c2
    obtain rfl := Option.some.inj H
    go_enter Tryd.func50, Tryd.ntmps50
    go_wp2
    go_ret
    exact ⟨by first | rfl | (simp; done) | (simp [*]; done), by repeat (first | exact Drawn0.refl _ | apply Drawn0.step)⟩
  · rw [if_neg c2] at H
    have c2b0 : decide (48 ≤ a0) = false := decide_eq_false c2
    clear c2
    obtain rfl := Option.some.inj H
    go_enter Tryd.func50, Tryd.ntmps50
    go_wp2
    go_ret
    exact ⟨by first | rfl | (simp; done) | (simp [*]; done), by repeat (first | exact Drawn0.refl _ | apply Drawn0.step)⟩

end Go.Proofs.YthagabjcoknogaaDoor.PImageRound
