/- What is planned for an image fits, lies within it and can be rendered; levels stay between the least and the greatest; no condition. -/
import Derived.Test.YthagabjcoknogaaPImageFitsx7
namespace Go.Proofs.Ythagabjcoknogaa.Pure
open Go.RowKit Go.Proofs.Ythagabjcoknogaa.PImageFits Go.Proofs.YthagabjcoknogaaW.PrintWords Go.Proofs.YthagabjcoknogaaW.PrintLast Go.Proofs.YthagabjcoknogaaW.PrintMore
set_option linter.unusedVariables false
set_option linter.unusedSimpArgs false

theorem w64 {n : Int} (h0 : -9223372036854775808 ≤ n) (h1 : n < 9223372036854775808) : wrap64 n = n := by unfold wrap64; omega
theorem mulb {a b A B : Int} (h0 : 0 ≤ a) (h0' : a ≤ A) (h1 : 0 ≤ b) (h1' : b ≤ B) : 0 ≤ a * b ∧ a * b ≤ A * B :=
  ⟨Int.mul_nonneg h0 h1, Int.mul_le_mul h0' h1' h1 (by omega)⟩
theorem m64 {a b : Int} (h0 : 0 ≤ a) (h0' : a ≤ 65) (h1 : 0 ≤ b) (h1' : b ≤ 65) : 0 ≤ a * b ∧ a * b ≤ 4225 := mulb h0 h0' h1 h1'

theorem side_eq (a : Int) : asset_isSide.f a = some (decide (1 ≤ a ∧ a ≤ 64)) := by
  unfold asset_isSide.f
  by_cases h : a ≥ 1
  · rw [if_pos h]; congr 1; apply decide_eq_decide.2; omega
  · rw [if_neg h]; congr 1; symm; apply decide_eq_false; omega

/-! CheckImage -/
def Right (W H : Int) (L : List Int) : Prop := (1 ≤ W ∧ W ≤ 64) ∧ (1 ≤ H ∧ H ≤ 64) ∧ (L.length : Int) = W * H ∧ ∀ x ∈ L, 0 ≤ x ∧ x ≤ 15
theorem rd_mem {L : List Int} {i : Int} (h0 : 0 ≤ i) (h1 : i < L.length) : rd L i ∈ L := by
  unfold rd
  rw [List.getD_eq_getElem?_getD, List.getElem?_eq_getElem (by omega), Option.getD_some]
  exact List.getElem_mem _
theorem check_loop (L : List Int) (hn : (L.length : Int) ≤ 4225) : ∀ d : Nat, ∀ i : Int, 0 ≤ i → i ≤ L.length → (L.length : Int) - i = d →
    ∃ e, (∀ k, asset_CheckImage.l0 (d + 1 + k) L L.length i = some e) ∧ (e = 0 ↔ ∀ j : Int, i ≤ j → j < L.length → 0 ≤ rd L j ∧ rd L j ≤ 15) := by
  intro d
  induction d with
  | zero =>
    intro i h0 h1 hd
    refine ⟨0, fun k => ?_, by simp; intro j hj hj2; omega⟩
    rw [show 0 + 1 + k = k + 1 by omega]
    simp only [asset_CheckImage.l0]; rw [if_neg (by omega)]
  | succ d ih =>
    intro i h0 h1 hd
    have hlt : i < (L.length : Int) := by omega
    by_cases hc : 0 ≤ rd L i ∧ rd L i ≤ 15
    · obtain ⟨e, he, hiff⟩ := ih (i + 1) (by omega) (by omega) (by omega)
      refine ⟨e, fun k => ?_, hiff.trans ⟨fun H j hj hj2 => ?_, fun H j hj hj2 => H j (by omega) hj2⟩⟩
      · rw [show d + 1 + 1 + k = (d + 1 + k) + 1 by omega]
        simp only [asset_CheckImage.l0]; rw [if_pos hlt, if_pos h0, if_pos hlt, if_neg (by omega), if_neg (by omega), w64 (by omega) (by omega)]; exact he k
      · by_cases h : j = i
        · rw [h]; exact hc
        · exact H j (by omega) hj2
    · refine ⟨2, fun k => ?_, by constructor; · intro h; cases h
                                 · intro H; exact absurd (H i (by omega) hlt) hc⟩
      rw [show d + 1 + 1 + k = (d + 1 + k) + 1 by omega]
      simp only [asset_CheckImage.l0]; rw [if_pos hlt, if_pos h0, if_pos hlt]
      by_cases h2 : rd L i < 0
      · rw [if_pos h2]
      · rw [if_neg h2, if_pos (by omega)]
theorem all_rd (L : List Int) : (∀ j : Int, 0 ≤ j → j < L.length → 0 ≤ rd L j ∧ rd L j ≤ 15) ↔ ∀ x ∈ L, 0 ≤ x ∧ x ≤ 15 := by
  constructor
  · intro H x hx
    obtain ⟨n, hn, rfl⟩ := List.mem_iff_getElem.1 hx
    have := H n (by omega) (by omega)
    rwa [show rd L (n : Int) = L[n] by unfold rd; simp [List.getD_eq_getElem?_getD, hn]] at this
  · intro H j h0 h1
    exact H _ (rd_mem h0 h1)
theorem check_at (W H : Int) (L : List Int) : ∃ e, Ev (fun k => asset_CheckImage.f k W H L) e ∧ (e = 0 ↔ Right W H L) := by
  unfold Right
  by_cases h1 : 1 ≤ W ∧ W ≤ 64
  · by_cases h2 : 1 ≤ H ∧ H ≤ 64
    · have hm := m64 (a := W) (b := H) (by omega) (by omega) (by omega) (by omega)
      by_cases h3 : (L.length : Int) = W * H
      · obtain ⟨e, he, hiff⟩ := check_loop L (by omega) L.length 0 (by omega) (by omega) (by omega)
        refine ⟨e, ⟨L.length + 2, fun k hk => ?_⟩, ?_⟩
        · obtain ⟨j, rfl⟩ : ∃ j, k = (L.length + 1 + j) + 1 := ⟨k - L.length - 2, by omega⟩
          show asset_CheckImage.f _ W H L = _
          unfold asset_CheckImage.f
          rw [side_eq, decide_eq_true h1, Option.bind_some, if_pos rfl, side_eq, decide_eq_true h2, Option.bind_some]
          simp only [asset_CheckImage.j0]
          rw [if_neg (by simp), w64 (by omega) (by omega), if_pos h3]
          exact he j
        · rw [hiff]; have := all_rd L; constructor
          · intro H; exact ⟨h1, h2, h3, this.1 (fun j a b => H j a b)⟩
          · intro H j a b; exact this.2 H.2.2.2 j a b
      · refine ⟨1, ⟨1, fun k hk => ?_⟩, by constructor; · intro h; cases h
                                           · intro h; exact absurd h.2.2.1 h3⟩
        obtain ⟨j, rfl⟩ : ∃ j, k = j + 1 := ⟨k - 1, by omega⟩
        show asset_CheckImage.f _ W H L = _
        unfold asset_CheckImage.f
        rw [side_eq, decide_eq_true h1, Option.bind_some, if_pos rfl, side_eq, decide_eq_true h2, Option.bind_some]
        simp only [asset_CheckImage.j0]
        rw [if_neg (by simp), w64 (by omega) (by omega), if_neg h3]
    · refine ⟨2, ⟨1, fun k hk => ?_⟩, by constructor; · intro h; cases h
                                         · intro h; exact absurd h.2.1 h2⟩
      obtain ⟨j, rfl⟩ : ∃ j, k = j + 1 := ⟨k - 1, by omega⟩
      show asset_CheckImage.f _ W H L = _
      unfold asset_CheckImage.f
      rw [side_eq, decide_eq_true h1, Option.bind_some, if_pos rfl, side_eq, decide_eq_false h2, Option.bind_some]
      simp only [asset_CheckImage.j0]
      rw [if_pos (by simp)]
  · refine ⟨2, ⟨1, fun k hk => ?_⟩, by constructor; · intro h; cases h
                                       · intro h; exact absurd h.1 h1⟩
    obtain ⟨j, rfl⟩ : ∃ j, k = j + 1 := ⟨k - 1, by omega⟩
    show asset_CheckImage.f _ W H L = _
    unfold asset_CheckImage.f
    rw [side_eq, decide_eq_false h1, Option.bind_some, if_neg (by simp)]
    simp only [asset_CheckImage.j0]
    rw [if_pos trivial]

/-! Plan -/
/-- What a plan that is made says. -/
def Planned (W H X Y CW CH TW TH : Int) : Prop :=
  (1 ≤ W ∧ W ≤ 64) ∧ (1 ≤ H ∧ H ≤ 64) ∧ 0 ≤ X ∧ 0 ≤ Y ∧ X + CW ≤ W ∧ Y + CH ≤ H ∧ 1 ≤ TW ∧ TW ≤ CW ∧ 1 ≤ TH ∧ TH ≤ CH
theorem rounded_at {a b : Int} (ha0 : 0 ≤ a) (ha : a ≤ 4225) (hb0 : 1 ≤ b) (hb : b ≤ 64) : asset_rounded.f a b = some (mx 1 ((2 * a + b) / (2 * b))) := by
  unfold asset_rounded.f
  have e : Int.tdiv (2 * a + b) (2 * b) = (2 * a + b) / (2 * b) := Int.tdiv_eq_ediv_of_nonneg (by omega)
  have d0 : 0 ≤ (2 * a + b) / (2 * b) := Int.ediv_nonneg (by omega) (by omega)
  have d1 : (2 * a + b) / (2 * b) ≤ 2 * a + b := Int.ediv_le_self _ (by omega)
  rw [w64 (n := 2 * b) (by omega) (by omega), if_neg (by omega), w64 (n := 2 * a) (by omega) (by omega), w64 (n := 2 * a + b) (by omega) (by omega), e, w64 (by omega) (by omega)]
/-- Rounded, a part of the whole stays below it. -/
theorem round_le {a b w : Int} (hb : 1 ≤ b) (hw : w ≤ b) (ha : 1 ≤ a) (hw0 : 0 ≤ w) : 1 ≤ mx 1 ((2 * (a * w) + b) / (2 * b)) ∧ mx 1 ((2 * (a * w) + b) / (2 * b)) ≤ a := by
  have h1 : a * w ≤ a * b := Int.mul_le_mul_of_nonneg_left hw (by omega)
  have h2 : (2 * (a * w) + b) / (2 * b) < a + 1 := by
    refine Int.ediv_lt_of_lt_mul (by omega) ?_
    have : (a + 1) * (2 * b) = 2 * (a * b) + 2 * b := by rw [Int.add_mul, Int.one_mul, Int.mul_left_comm]
    omega
  unfold mx; split <;> omega
theorem mn_nat {a b : Int} : mn a b ≤ a ∧ mn a b ≤ b ∧ (mn a b = a ∨ mn a b = b) := by unfold mn; split <;> omega
theorem div_ge {a b c : Int} (hc : 1 ≤ c) (h : b * c ≤ a) : b ≤ a / c := (Int.le_ediv_iff_mul_le (by omega)).2 h
theorem div_le {a b c : Int} (hc : 1 ≤ c) (h : a ≤ b * c) : a / c ≤ b := by
  have : a / c < b + 1 := Int.ediv_lt_of_lt_mul (by omega) (by rw [Int.add_mul, Int.one_mul]; omega)
  omega
theorem filled_at {W H w h : Int} (hW : 1 ≤ W ∧ W ≤ 64) (hH : 1 ≤ H ∧ H ≤ 64) (hw : 1 ≤ w ∧ w ≤ W) (hh : 1 ≤ h ∧ h ≤ H) :
    ∃ X Y CW CH, asset_filled.f W H w h = some (X, Y, CW, CH, w, h) ∧ Planned W H X Y CW CH w h := by
  unfold asset_filled.f
  rw [if_pos (by omega)]
  have hc1 : w * h = h * w := Int.mul_comm _ _
  by_cases c : H * w < W * h
  · rw [if_pos c]
    have q1 : H * w / h ≤ W := div_le (by omega) (by omega)
    have q2 : w ≤ H * w / h := div_ge (by omega) (by have : h * w ≤ H * w := Int.mul_le_mul_of_nonneg_right hh.2 (by omega); omega)
    have qm : mx 1 (H * w / h) = H * w / h := by unfold mx; split <;> omega
    rw [qm]
    have e : Int.tdiv (W - H * w / h) 2 = (W - H * w / h) / 2 := Int.tdiv_eq_ediv_of_nonneg (by omega)
    exact ⟨_, _, _, _, rfl, hW, hH, by omega, by omega, by omega, by omega, by omega, by omega, by omega, by omega⟩
  · rw [if_neg c]
    have q1 : W * h / w ≤ H := div_le (by omega) (by omega)
    have q2 : h ≤ W * h / w := div_ge (by omega) (by have : w * h ≤ W * h := Int.mul_le_mul_of_nonneg_right hw.2 (by omega); omega)
    have qm : mx 1 (W * h / w) = W * h / w := by unfold mx; split <;> omega
    rw [qm]
    have e : Int.tdiv (H - W * h / w) 2 = (H - W * h / w) / 2 := Int.tdiv_eq_ediv_of_nonneg (by omega)
    exact ⟨_, _, _, _, rfl, hW, hH, by omega, by omega, by omega, by omega, by omega, by omega, by omega, by omega⟩
abbrev R7 := Int × Int × Int × Int × Int × Int × Int
def PR (W H : Int) (r : R7) : Prop :=
  (r.2.2.2.2.2.2 = 0 ∧ Planned W H r.1 r.2.1 r.2.2.1 r.2.2.2.1 r.2.2.2.2.1 r.2.2.2.2.2.1) ∨
  (r.2.2.2.2.2.2 ≠ 0 ∧ r.1 = 0 ∧ r.2.1 = 0 ∧ r.2.2.1 = 0 ∧ r.2.2.2.1 = 0 ∧ r.2.2.2.2.1 = 0 ∧ r.2.2.2.2.2.1 = 0)
theorem plan0 {W H a b : Int} (hW : 1 ≤ W ∧ W ≤ 64) (hH : 1 ≤ H ∧ H ≤ 64) (h1 : 1 ≤ a) (h2 : a ≤ W) (h3 : 1 ≤ b) (h4 : b ≤ H) : Planned W H 0 0 W H a b := ⟨hW, hH, by omega, by omega, by omega, by omega, h1, h2, h3, h4⟩
theorem plan1 {W H a b : Int} (hW : 1 ≤ W ∧ W ≤ 64) (hH : 1 ≤ H ∧ H ≤ 64) (h1 : 1 ≤ a) (h2 : a ≤ W) (h3 : 1 ≤ b) (h4 : b ≤ H) : PR W H (0, 0, W, H, a, b, 0) := .inl ⟨rfl, plan0 hW hH h1 h2 h3 h4⟩
theorem PR_bad (W H e : Int) (h : e ≠ 0) : PR W H (0, 0, 0, 0, 0, 0, e) := .inr ⟨h, rfl, rfl, rfl, rfl, rfl, rfl⟩
section
variable {W H way ww wh : Int}
theorem j3_bad : ∃ r : R7, (∀ k, asset_Plan.j3 (k + 1) W H true way ww wh = some r) ∧ PR W H r :=
  ⟨_, fun k => by simp only [asset_Plan.j3]; rw [if_pos trivial], PR_bad W H 1 (by decide)⟩
theorem j2_bad : ∃ r : R7, (∀ k, asset_Plan.j2 (k + 2) W H true way ww wh = some r) ∧ PR W H r :=
  ⟨_, fun k => by simp only [asset_Plan.j2]; rw [if_pos trivial], PR_bad W H 2 (by decide)⟩
variable (hW : 1 ≤ W ∧ W ≤ 64) (hH : 1 ≤ H ∧ H ≤ 64)
include hW hH
theorem j3_at (h1 : 1 ≤ way) (h4 : way ≤ 4) (a : way ≠ 4 → 1 ≤ ww ∧ ww ≤ 64) (b : way ≠ 3 → 1 ≤ wh ∧ wh ≤ 64) (c : way = 4 → ww = 0) (d : way = 3 → wh = 0) :
    ∃ r : R7, (∀ k, asset_Plan.j3 (k + 1) W H false way ww wh = some r) ∧ PR W H r := by
  have mw := mn_nat (a := ww) (b := W)
  have mh := mn_nat (a := wh) (b := H)
  have bw : 0 ≤ mn ww W ∧ mn ww W ≤ W := by
    by_cases e : way = 4
    · have := c e; omega
    · have := a e; omega
  have bh : 0 ≤ mn wh H ∧ mn wh H ≤ H := by
    by_cases e : way = 3
    · have := d e; omega
    · have := b e; omega
  have pw := m64 (a := H) (b := mn ww W) (by omega) (by omega) (by omega) (by omega)
  have ph := m64 (a := W) (b := mn wh H) (by omega) (by omega) (by omega) (by omega)
  have r1 := rounded_at pw.1 pw.2 hW.1 hW.2
  have r2 := rounded_at ph.1 ph.2 hH.1 hH.2
  have s1 := round_le hW.1 bw.2 hH.1 bw.1
  have s2 := round_le hH.1 bh.2 hW.1 bh.1
  have whd : ∀ k, asset_Plan.j3 (k + 1) W H false way ww wh = (if way = 2 then ((asset_filled.f W H (mn ww W) (mn wh H)).bind fun bt112 => (some (bt112.1, bt112.2.1, bt112.2.2.1, bt112.2.2.2.1, bt112.2.2.2.2.1, bt112.2.2.2.2.2, 0))) else (if way = 3 then (some (0, 0, W, H, mn ww W, mx 1 ((2 * (H * mn ww W) + W) / (2 * W)), 0)) else (if way = 1 then (if mx 1 ((2 * (H * mn ww W) + W) / (2 * W)) ≤ (mn wh H) then (some (0, 0, W, H, mn ww W, mx 1 ((2 * (H * mn ww W) + W) / (2 * W)), 0)) else (some (0, 0, W, H, mx 1 ((2 * (W * mn wh H) + H) / (2 * H)), mn wh H, 0))) else (some (0, 0, W, H, mx 1 ((2 * (W * mn wh H) + H) / (2 * H)), mn wh H, 0))))) := by
    intro k
    simp only [asset_Plan.j3]
    rw [if_neg (by simp), w64 (n := H * mn ww W) (by omega) (by omega), r1, Option.bind_some, w64 (n := W * mn wh H) (by omega) (by omega), r2, Option.bind_some]
  generalize mx 1 ((2 * (H * mn ww W) + W) / (2 * W)) = g1 at *
  generalize mx 1 ((2 * (W * mn wh H) + H) / (2 * H)) = g2 at *
  by_cases e2 : way = 2
  · have := a (by omega); have := b (by omega)
    obtain ⟨X, Y, CW, CH, hf, hp⟩ := filled_at hW hH (w := mn ww W) (h := mn wh H) (by omega) (by omega)
    refine ⟨(X, Y, CW, CH, mn ww W, mn wh H, 0), fun k => ?_, .inl ⟨rfl, hp⟩⟩
    rw [whd, if_pos e2, hf, Option.bind_some]
  · by_cases e3 : way = 3
    · have := a (by omega)
      refine ⟨(0, 0, W, H, mn ww W, g1, 0), fun k => ?_, plan1 hW hH (by omega) (by omega) (by omega) (by omega)⟩
      rw [whd, if_neg e2, if_pos e3]
    · have := b (by omega)
      by_cases e1 : way = 1
      · have := a (by omega)
        by_cases g : g1 ≤ mn wh H
        · refine ⟨(0, 0, W, H, mn ww W, g1, 0), fun k => ?_, plan1 hW hH (by omega) (by omega) (by omega) (by omega)⟩
          rw [whd, if_neg e2, if_neg e3, if_pos e1, if_pos g]
        · refine ⟨(0, 0, W, H, g2, mn wh H, 0), fun k => ?_, plan1 hW hH (by omega) (by omega) (by omega) (by omega)⟩
          rw [whd, if_neg e2, if_neg e3, if_pos e1, if_neg g]
      · refine ⟨(0, 0, W, H, g2, mn wh H, 0), fun k => ?_, plan1 hW hH (by omega) (by omega) (by omega) (by omega)⟩
        rw [whd, if_neg e2, if_neg e3, if_neg e1]
theorem j2_at (h1 : 1 ≤ way) (h4 : way ≤ 4) (a : way ≠ 4 → 1 ≤ ww ∧ ww ≤ 64) (b : way ≠ 3 → 1 ≤ wh ∧ wh ≤ 64) :
    ∃ r : R7, (∀ k, asset_Plan.j2 (k + 2) W H false way ww wh = some r) ∧ PR W H r := by
  have bad := j3_bad (W := W) (H := H) (way := way) (ww := ww) (wh := wh)
  have good := j3_at (W := W) (H := H) (way := way) (ww := ww) (wh := wh) hW hH h1 h4 a b
  by_cases e4 : way = 4
  · have e3 : ¬ way = 3 := by omega
    by_cases z : ww = 0
    · obtain ⟨r, hr, hp⟩ := good (fun _ => z) (fun h => absurd h e3)
      exact ⟨r, fun k => by simp only [asset_Plan.j2]; rw [if_neg (by simp), if_pos e4, if_pos z, if_neg e3]; exact hr k, hp⟩
    · obtain ⟨r, hr, hp⟩ := bad
      exact ⟨r, fun k => by simp only [asset_Plan.j2]; rw [if_neg (by simp), if_pos e4, if_neg z]; exact hr k, hp⟩
  · by_cases e3 : way = 3
    · by_cases z : wh = 0
      · obtain ⟨r, hr, hp⟩ := good (fun h => absurd h e4) (fun _ => z)
        exact ⟨r, fun k => by simp only [asset_Plan.j2]; rw [if_neg (by simp), if_neg e4, if_pos e3, show (wh != 0) = false by simp [z]]; exact hr k, hp⟩
      · obtain ⟨r, hr, hp⟩ := bad
        exact ⟨r, fun k => by simp only [asset_Plan.j2]; rw [if_neg (by simp), if_neg e4, if_pos e3, show (wh != 0) = true by simp [z]]; exact hr k, hp⟩
    · obtain ⟨r, hr, hp⟩ := good (fun h => absurd h e4) (fun h => absurd h e3)
      exact ⟨r, fun k => by simp only [asset_Plan.j2]; rw [if_neg (by simp), if_neg e4, if_neg e3]; exact hr k, hp⟩
theorem j1_at (h1 : 1 ≤ way) (h4 : way ≤ 4) : ∃ r : R7, (∀ k, asset_Plan.j1 (k + 3) W H false way ww wh = some r) ∧ PR W H r := by
  have bad := j2_bad (W := W) (H := H) (way := way) (ww := ww) (wh := wh)
  have good := j2_at (W := W) (H := H) (way := way) (ww := ww) (wh := wh) hW hH h1 h4
  have tail : way ≠ 3 → (way ≠ 4 → 1 ≤ ww ∧ ww ≤ 64) → ∃ r : R7, (∀ k, ((asset_isSide.f wh).bind fun t107 => (asset_Plan.j2 (k + 2) W H (!t107) way ww wh)) = some r) ∧ PR W H r := by
    intro e3 ha
    by_cases s : 1 ≤ wh ∧ wh ≤ 64
    · obtain ⟨r, hr, hp⟩ := good ha (fun _ => s)
      exact ⟨r, fun k => by rw [side_eq, decide_eq_true s, Option.bind_some]; exact hr k, hp⟩
    · obtain ⟨r, hr, hp⟩ := bad
      exact ⟨r, fun k => by rw [side_eq, decide_eq_false s, Option.bind_some]; exact hr k, hp⟩
  by_cases e4 : way = 4
  · have e3 : ¬ way = 3 := by omega
    obtain ⟨r, hr, hp⟩ := tail e3 (fun h => absurd e4 h)
    exact ⟨r, fun k => by simp only [asset_Plan.j1]; rw [if_neg (by simp), if_pos e4, if_neg e3]; exact hr k, hp⟩
  · by_cases s : 1 ≤ ww ∧ ww ≤ 64
    · by_cases e3 : way = 3
      · obtain ⟨r, hr, hp⟩ := good (fun _ => s) (fun h => absurd e3 h)
        exact ⟨r, fun k => by simp only [asset_Plan.j1]; rw [if_neg (by simp), if_neg e4, side_eq, decide_eq_true s, Option.bind_some, if_pos rfl, if_pos e3]; exact hr k, hp⟩
      · obtain ⟨r, hr, hp⟩ := tail e3 (fun _ => s)
        exact ⟨r, fun k => by simp only [asset_Plan.j1]; rw [if_neg (by simp), if_neg e4, side_eq ww, decide_eq_true s, Option.bind_some, if_pos rfl, if_neg e3]; exact hr k, hp⟩
    · obtain ⟨r, hr, hp⟩ := bad
      exact ⟨r, fun k => by simp only [asset_Plan.j1]; rw [if_neg (by simp), if_neg e4, side_eq ww, decide_eq_false s, Option.bind_some, if_neg (by simp)]; exact hr k, hp⟩
end
theorem plan_at (W H way ww wh : Int) : ∃ r : R7, Ev (fun k => asset_Plan.f k W H way ww wh) r ∧ PR W H r := by
  suffices hs : ∃ r : R7, (∀ k, asset_Plan.f (k + 4) W H way ww wh = some r) ∧ PR W H r by
    obtain ⟨r, hr, hp⟩ := hs
    exact ⟨r, ⟨4, fun k hk => by obtain ⟨j, rfl⟩ : ∃ j, k = j + 4 := ⟨k - 4, by omega⟩; exact hr j⟩, hp⟩
  have bad : ∃ r : R7, (∀ k, asset_Plan.j0 (k + 4) W H true way ww wh = some r) ∧ PR W H r := ⟨_, fun k => by simp only [asset_Plan.j0]; rw [if_pos trivial], PR_bad W H 2 (by decide)⟩
  by_cases hW : 1 ≤ W ∧ W ≤ 64
  · by_cases hH : 1 ≤ H ∧ H ≤ 64
    · have j1b : ∃ r : R7, (∀ k, asset_Plan.j1 (k + 3) W H true way ww wh = some r) ∧ PR W H r := ⟨_, fun k => by simp only [asset_Plan.j1]; rw [if_pos trivial], PR_bad W H 1 (by decide)⟩
      by_cases h1 : way < 1
      · obtain ⟨r, hr, hp⟩ := j1b
        exact ⟨r, fun k => by unfold asset_Plan.f; rw [side_eq, decide_eq_true hW, Option.bind_some, if_pos rfl, side_eq, decide_eq_true hH, Option.bind_some]; simp only [asset_Plan.j0]; rw [if_neg (by simp), if_pos h1]; exact hr k, hp⟩
      · by_cases h4 : way > 4
        · obtain ⟨r, hr, hp⟩ := j1b
          exact ⟨r, fun k => by unfold asset_Plan.f; rw [side_eq, decide_eq_true hW, Option.bind_some, if_pos rfl, side_eq, decide_eq_true hH, Option.bind_some]; simp only [asset_Plan.j0]; rw [if_neg (by simp), if_neg h1, decide_eq_true h4]; exact hr k, hp⟩
        · obtain ⟨r, hr, hp⟩ := j1_at (W := W) (H := H) (way := way) (ww := ww) (wh := wh) hW hH (by omega) (by omega)
          exact ⟨r, fun k => by unfold asset_Plan.f; rw [side_eq, decide_eq_true hW, Option.bind_some, if_pos rfl, side_eq, decide_eq_true hH, Option.bind_some]; simp only [asset_Plan.j0]; rw [if_neg (by simp), if_neg h1, decide_eq_false h4]; exact hr k, hp⟩
    · obtain ⟨r, hr, hp⟩ := bad
      exact ⟨r, fun k => by unfold asset_Plan.f; rw [side_eq, decide_eq_true hW, Option.bind_some, if_pos rfl, side_eq, decide_eq_false hH, Option.bind_some]; exact hr k, hp⟩
  · obtain ⟨r, hr, hp⟩ := bad
    exact ⟨r, fun k => by unfold asset_Plan.f; rw [side_eq, decide_eq_false hW, Option.bind_some, if_neg (by simp)]; exact hr k, hp⟩
end Go.Proofs.Ythagabjcoknogaa.Pure
namespace Go.Proofs.Ythagabjcoknogaa.Pure
open Go.RowKit Go.Proofs.Ythagabjcoknogaa.PImageFits Go.Proofs.YthagabjcoknogaaW.PrintWords Go.Proofs.YthagabjcoknogaaW.PrintLast Go.Proofs.YthagabjcoknogaaW.PrintMore
set_option linter.unusedVariables false
set_option linter.unusedSimpArgs false
/-! Render -/
def cl (lo hi t : Int) : Int := if t < lo then lo else if hi < t then hi else t
theorem cl_b {lo hi t : Int} (h : lo ≤ hi) : lo ≤ cl lo hi t ∧ cl lo hi t ≤ hi := by unfold cl; split <;> (try split) <;> omega
theorem cl_mono {lo hi t u : Int} (h : lo ≤ hi) (k : t ≤ u) : cl lo hi t ≤ cl lo hi u := by unfold cl; split <;> split <;> (try split) <;> (try split) <;> omega
theorem cl_lo {lo hi t : Int} (h : lo ≤ hi) (k : t ≤ lo) : cl lo hi t = lo := by unfold cl; split <;> (try split) <;> omega
theorem cl_hi {lo hi t : Int} (h : lo ≤ hi) (k : hi ≤ t) : cl lo hi t = hi := by unfold cl; split <;> (try split) <;> omega
theorem overlap_at {a b lo hi : Int} (h0 : 0 ≤ a) (hab : a ≤ b) (hb : b ≤ 100000) (l0 : 0 ≤ lo) (lh : lo ≤ hi) (h1 : hi ≤ 100000) : asset_overlap.f a b lo hi = some (cl lo hi b - cl lo hi a) := by
  unfold asset_overlap.f
  have e : wrap64 (mn b hi - mx a lo) = mn b hi - mx a lo := by apply w64 <;> (unfold mn mx; split <;> split <;> omega)
  rw [e]
  congr 1
  unfold mn mx cl
  split <;> split <;> split <;> split <;> (try split) <;> (try split) <;> omega
theorem tdiv_at {a b : Int} (h0 : 0 ≤ a) (h1 : a ≤ 100000) (hb : 1 ≤ b) : wrap64 (Int.tdiv a b) = a / b ∧ 0 ≤ a / b ∧ a / b * b ≤ a ∧ a < (a / b + 1) * b := by
  have e : Int.tdiv a b = a / b := Int.tdiv_eq_ediv_of_nonneg h0
  have d0 : 0 ≤ a / b := Int.ediv_nonneg h0 (by omega)
  have d1 : a / b ≤ a := Int.ediv_le_self _ h0
  exact ⟨by rw [e, w64 (by omega) (by omega)], d0, Int.ediv_mul_le _ (by omega), Int.lt_ediv_add_one_mul_self _ (by omega)⟩
section
variable {W H X Y CW CH TW TH : Int} {L : List Int} (hP : Planned W H X Y CW CH TW TH) (hL : (L.length : Int) = W * H) (hR : ∀ j : Int, 0 ≤ j → j < L.length → 0 ≤ rd L j ∧ rd L j ≤ 15)
include hP hL
theorem idx_at {v u : Int} (hv0 : 0 ≤ v) (hv : v < CH) (hu0 : 0 ≤ u) (hu : u < CW) :
    wrap64 (wrap64 (wrap64 (wrap64 (Y + v) * W) + X) + u) = (Y + v) * W + X + u ∧ 0 ≤ (Y + v) * W + X + u ∧ (Y + v) * W + X + u < L.length := by
  obtain ⟨hW, hH, hX, hY, hXW, hYH, h1, h2, h3, h4⟩ := hP
  have m1 := m64 (a := Y + v) (b := W) (by omega) (by omega) (by omega) (by omega)
  have m2 : (Y + v) * W ≤ (H - 1) * W := Int.mul_le_mul_of_nonneg_right (by omega) (by omega)
  have m3 : (H - 1) * W = W * H - W := by rw [Int.sub_mul, Int.one_mul, Int.mul_comm]
  rw [w64 (n := Y + v) (by omega) (by omega), w64 (n := (Y + v) * W) (by omega) (by omega), w64 (n := (Y + v) * W + X) (by omega) (by omega), w64 (by omega) (by omega)]
  omega
include hR
theorem u_loop {area y x v high : Int} (hx0 : 0 ≤ x) (hx : x < TW) (hv0 : 0 ≤ v) (hv : v < CH) (hh0 : 0 ≤ high) (hh : high ≤ 4225) : ∀ d : Nat, ∀ u sum : Int, 0 ≤ u → u ≤ CW → CW - u ≤ d → 0 ≤ sum →
    sum + high * ((x + 1) * CW - cl (x * CW) ((x + 1) * CW) (u * TW)) * 15 ≤ 1000000000 →
    ∃ n : Nat, ∃ s : Int, (∀ (k : Nat) (p q r t oW oH : Int) (out : List Int), asset_Render.l3 (k + n) area y x sum v high u p q r t W H L X Y CW CH TW TH oW oH out = asset_Render.l2 k area y x s (v + 1) p q r t W H L X Y CW CH TW TH oW oH out) ∧
      ∀ lo hi : Int, 0 ≤ lo → hi ≤ 15 → (∀ u', u ≤ u' → u' < CW → u' * TW < (x + 1) * CW → lo ≤ rd L ((Y + v) * W + X + u') ∧ rd L ((Y + v) * W + X + u') ≤ hi) →
        sum + high * ((x + 1) * CW - cl (x * CW) ((x + 1) * CW) (u * TW)) * lo ≤ s ∧ s ≤ sum + high * ((x + 1) * CW - cl (x * CW) ((x + 1) * CW) (u * TW)) * hi := by
  obtain ⟨hW, hH, hX, hY, hXW, hYH, h1, h2, h3, h4⟩ := id hP
  have e1 : (x + 1) * CW = x * CW + CW := by rw [Int.add_mul, Int.one_mul]
  have b1 := m64 (a := x) (b := CW) (by omega) (by omega) (by omega) (by omega)
  have b2 := m64 (a := x + 1) (b := CW) (by omega) (by omega) (by omega) (by omega)
  have b3 : (x + 1) * CW ≤ TW * CW := Int.mul_le_mul_of_nonneg_right (by omega) (by omega)
  have b4 : TW * CW = CW * TW := Int.mul_comm _ _
  have lh : x * CW ≤ (x + 1) * CW := by omega
  have wx : wrap64 (x + 1) = x + 1 := w64 (by omega) (by omega)
  have wxc : wrap64 (x * CW) = x * CW := w64 (by omega) (by omega)
  have wxc1 : wrap64 ((x + 1) * CW) = (x + 1) * CW := w64 (by omega) (by omega)
  have wv : wrap64 (v + 1) = v + 1 := w64 (by omega) (by omega)
  intro d
  induction d with
  | zero =>
    intro u sum hu0 hu hd hs0 hs
    have c1 : CW * TW ≤ u * TW := Int.mul_le_mul_of_nonneg_right (by omega) (by omega)
    have c2 : cl (x * CW) ((x + 1) * CW) (u * TW) = (x + 1) * CW := cl_hi lh (by omega)
    refine ⟨1, sum, fun k p q r t oW oH out => ?_, fun lo hi _ _ _ => ?_⟩
    · simp only [asset_Render.l3]; rw [if_neg (by omega), wv]
    · rw [c2, Int.sub_self, Int.mul_zero, Int.zero_mul, Int.zero_mul]; omega
  | succ d ih =>
    intro u sum hu0 hu hd hs0 hs
    have b5 := m64 (a := u) (b := TW) (by omega) (by omega) (by omega) (by omega)
    have b6 := m64 (a := u + 1) (b := TW) (by omega) (by omega) (by omega) (by omega)
    have e2 : (u + 1) * TW = u * TW + TW := by rw [Int.add_mul, Int.one_mul]
    have wu : wrap64 (u * TW) = u * TW := w64 (by omega) (by omega)
    have wu1 : wrap64 (u + 1) = u + 1 := w64 (by omega) (by omega)
    have wu2 : wrap64 ((u + 1) * TW) = (u + 1) * TW := w64 (by omega) (by omega)
    by_cases c : u * TW < (x + 1) * CW
    · have huc : u < CW := by
        refine Int.not_le.1 fun h => ?_
        have : CW * TW ≤ u * TW := Int.mul_le_mul_of_nonneg_right h (by omega)
        omega
      obtain ⟨ix, i0, i1⟩ := idx_at hP hL hv0 hv hu0 huc
      have hlev := hR _ i0 i1
      have k1 := cl_mono (lo := x * CW) (hi := (x + 1) * CW) (t := u * TW) (u := (u + 1) * TW) lh (by omega)
      have k2 := cl_b (lo := x * CW) (hi := (x + 1) * CW) (t := u * TW) lh
      have k3 := cl_b (lo := x * CW) (hi := (x + 1) * CW) (t := (u + 1) * TW) lh
      have ov := overlap_at (a := u * TW) (b := (u + 1) * TW) (lo := x * CW) (hi := (x + 1) * CW) (by omega) (by omega) (by omega) (by omega) lh (by omega)
      generalize hA : cl (x * CW) ((x + 1) * CW) ((u + 1) * TW) - cl (x * CW) ((x + 1) * CW) (u * TW) = A at ov
      generalize hB : (x + 1) * CW - cl (x * CW) ((x + 1) * CW) ((u + 1) * TW) = B at ih
      have hAB : (x + 1) * CW - cl (x * CW) ((x + 1) * CW) (u * TW) = A + B := by omega
      rw [hAB, Int.mul_add, Int.add_mul] at hs
      have hPb := mulb (a := high) (b := A) (A := 4225) (B := 4225) hh0 hh (by omega) (by omega)
      have hQb := mulb (a := high) (b := B) (A := 4225) (B := 4225) hh0 hh (by omega) (by omega)
      generalize hl : rd L ((Y + v) * W + X + u) = lev at *
      have hle : high * A * lev ≤ high * A * 15 := Int.mul_le_mul_of_nonneg_left hlev.2 hPb.1
      have hl0 : 0 ≤ high * A * lev := Int.mul_nonneg hPb.1 hlev.1
      have ih' := ih (u + 1) (sum + high * A * lev) (by omega) (by omega) (by omega) (by omega) (by rw [hB]; omega)
      obtain ⟨n, s, hn, hs'⟩ := ih'
      rw [hB] at hs'
      refine ⟨n + 1, s, fun k p q r t oW oH out => ?_, fun lo hi hlo hhi hall => ?_⟩
      · rw [show k + (n + 1) = (k + n) + 1 by omega]
        simp only [asset_Render.l3]
        rw [if_pos huc, wu, wx, wxc1, if_pos c, wu1, wu2, wxc, ov, Option.bind_some, ix, if_pos i0, if_pos i1, hl, w64 (n := high * A) (by omega) (by omega), w64 (n := high * A * lev) (by omega) (by omega), w64 (n := sum + high * A * lev) (by omega) (by omega)]
        exact hn k p q r t oW oH out
      · have hu' := hall u (Int.le_refl _) huc c
        rw [hl] at hu'
        have := hs' lo hi hlo hhi (fun u' a b c' => hall u' (by omega) b c')
        rw [hAB, Int.mul_add, Int.add_mul, Int.add_mul]
        have g1 : high * A * lo ≤ high * A * lev := Int.mul_le_mul_of_nonneg_left hu'.1 hPb.1
        have g2 : high * A * lev ≤ high * A * hi := Int.mul_le_mul_of_nonneg_left hu'.2 hPb.1
        omega
    · have c2 : cl (x * CW) ((x + 1) * CW) (u * TW) = (x + 1) * CW := cl_hi lh (by omega)
      refine ⟨1, sum, fun k p q r t oW oH out => ?_, fun lo hi _ _ _ => ?_⟩
      · simp only [asset_Render.l3]
        by_cases huc : u < CW
        · rw [if_pos huc, wu, wx, wxc1, if_neg c, wv]
        · rw [if_neg huc, wv]
      · rw [c2, Int.sub_self, Int.mul_zero, Int.zero_mul, Int.zero_mul]; omega
theorem v_loop {area y x : Int} (har : area = CW * CH) (hx0 : 0 ≤ x) (hx : x < TW) (hy0 : 0 ≤ y) (hy : y < TH) : ∀ d : Nat, ∀ v sum : Int, 0 ≤ v → v ≤ CH → CH - v ≤ d → 0 ≤ sum →
    sum + CW * ((y + 1) * CH - cl (y * CH) ((y + 1) * CH) (v * TH)) * 15 ≤ 1000000 →
    ∃ n : Nat, ∃ s : Int, (∀ (k : Nat) (p q oW oH : Int) (out : List Int), (out.length : Int) ≤ 5000 → asset_Render.l2 (k + n) area y x sum v p q TW x W H L X Y CW CH TW TH oW oH out = asset_Render.l1 k area y p q TW (x + 1) W H L X Y CW CH TW TH oW oH (out ++ [(2 * s + area) / (2 * area)])) ∧
      ∀ lo hi : Int, 0 ≤ lo → hi ≤ 15 → (∀ v' u', v ≤ v' → v' < CH → v' * TH < (y + 1) * CH → x * CW / TW ≤ u' → u' < CW → u' * TW < (x + 1) * CW → lo ≤ rd L ((Y + v') * W + X + u') ∧ rd L ((Y + v') * W + X + u') ≤ hi) →
        sum + CW * ((y + 1) * CH - cl (y * CH) ((y + 1) * CH) (v * TH)) * lo ≤ s ∧ s ≤ sum + CW * ((y + 1) * CH - cl (y * CH) ((y + 1) * CH) (v * TH)) * hi := by
  obtain ⟨hW, hH, hX, hY, hXW, hYH, h1, h2, h3, h4⟩ := id hP
  have e1 : (x + 1) * CW = x * CW + CW := by rw [Int.add_mul, Int.one_mul]
  have b1 := m64 (a := x) (b := CW) (by omega) (by omega) (by omega) (by omega)
  have b2 := m64 (a := x + 1) (b := CW) (by omega) (by omega) (by omega) (by omega)
  have lh : x * CW ≤ (x + 1) * CW := by omega
  have wxc : wrap64 (x * CW) = x * CW := w64 (by omega) (by omega)
  obtain ⟨td, t0, t1, t2⟩ := tdiv_at (a := x * CW) (b := TW) b1.1 (by omega) h1
  have u0c : cl (x * CW) ((x + 1) * CW) (x * CW / TW * TW) = x * CW := cl_lo lh t1
  have u0le : x * CW / TW ≤ CW := by
    refine div_le h1 ?_
    have : x * CW ≤ TW * CW := Int.mul_le_mul_of_nonneg_right (by omega) (by omega)
    have : TW * CW = CW * TW := Int.mul_comm _ _
    omega
  have wt : (x + 1) * CW - x * CW = CW := by omega
  have f1 : (y + 1) * CH = y * CH + CH := by rw [Int.add_mul, Int.one_mul]
  have c1 := m64 (a := y) (b := CH) (by omega) (by omega) (by omega) (by omega)
  have c2 := m64 (a := y + 1) (b := CH) (by omega) (by omega) (by omega) (by omega)
  have c3 : (y + 1) * CH ≤ TH * CH := Int.mul_le_mul_of_nonneg_right (by omega) (by omega)
  have c4 : TH * CH = CH * TH := Int.mul_comm _ _
  have lhy : y * CH ≤ (y + 1) * CH := by omega
  have wy : wrap64 (y + 1) = y + 1 := w64 (by omega) (by omega)
  have wyc : wrap64 (y * CH) = y * CH := w64 (by omega) (by omega)
  have wyc1 : wrap64 ((y + 1) * CH) = (y + 1) * CH := w64 (by omega) (by omega)
  have ha := m64 (a := CW) (b := CH) (by omega) (by omega) (by omega) (by omega)
  have ha1 : 1 ≤ area := by rw [har]; exact Int.mul_pos (by omega) (by omega)
  have ha2 : area ≤ 4225 := by omega
  have hx1 : wrap64 (x + 1) = x + 1 := w64 (by omega) (by omega)
  -- the end: what is written
  have fin : ∀ (sum : Int), 0 ≤ sum → sum ≤ 1000000 → ∀ (k : Nat) (v p q oW oH : Int) (out : List Int), (out.length : Int) ≤ 5000 → asset_Render.j5 (k + 1) area y x sum v p q TW x false W H L X Y CW CH TW TH oW oH out = asset_Render.l1 k area y p q TW (x + 1) W H L X Y CW CH TW TH oW oH (out ++ [(2 * sum + area) / (2 * area)]) := by
    intro sum hs0 hs1 k v p q oW oH out ho
    have e : Int.tdiv (2 * sum + area) (2 * area) = (2 * sum + area) / (2 * area) := Int.tdiv_eq_ediv_of_nonneg (by omega)
    have d0 : 0 ≤ (2 * sum + area) / (2 * area) := Int.ediv_nonneg (by omega) (by omega)
    have d1 : (2 * sum + area) / (2 * area) ≤ 2 * sum + area := Int.ediv_le_self _ (by omega)
    simp only [asset_Render.j5]
    rw [if_neg (by simp), w64 (n := 2 * area) (by omega) (by omega), if_neg (by omega), if_pos (by omega), hx1, w64 (n := 2 * sum) (by omega) (by omega), w64 (n := 2 * sum + area) (by omega) (by omega), e, w64 (by omega) (by omega)]
  intro d
  induction d with
  | zero =>
    intro v sum hv0 hv hd hs0 hs
    have g1 : CH * TH ≤ v * TH := Int.mul_le_mul_of_nonneg_right (by omega) (by omega)
    have g2 : cl (y * CH) ((y + 1) * CH) (v * TH) = (y + 1) * CH := cl_hi lhy (by omega)
    rw [g2, Int.sub_self, Int.mul_zero, Int.zero_mul] at hs
    refine ⟨2, sum, fun k p q oW oH out ho => ?_, fun lo hi _ _ _ => ?_⟩
    · rw [show k + 2 = (k + 1) + 1 by omega]
      simp only [asset_Render.l2]; rw [if_neg (by omega)]; exact fin sum hs0 (by omega) k v p q oW oH out ho
    · rw [g2, Int.sub_self, Int.mul_zero, Int.zero_mul, Int.zero_mul]; omega
  | succ d ih =>
    intro v sum hv0 hv hd hs0 hs
    have b5 := m64 (a := v) (b := TH) (by omega) (by omega) (by omega) (by omega)
    have b6 := m64 (a := v + 1) (b := TH) (by omega) (by omega) (by omega) (by omega)
    have e2 : (v + 1) * TH = v * TH + TH := by rw [Int.add_mul, Int.one_mul]
    have wv : wrap64 (v * TH) = v * TH := w64 (by omega) (by omega)
    have wv1 : wrap64 (v + 1) = v + 1 := w64 (by omega) (by omega)
    have wv2 : wrap64 ((v + 1) * TH) = (v + 1) * TH := w64 (by omega) (by omega)
    by_cases c : v * TH < (y + 1) * CH
    · have hvc : v < CH := by
        refine Int.not_le.1 fun h => ?_
        have : CH * TH ≤ v * TH := Int.mul_le_mul_of_nonneg_right h (by omega)
        omega
      have k1 := cl_mono (lo := y * CH) (hi := (y + 1) * CH) (t := v * TH) (u := (v + 1) * TH) lhy (by omega)
      have k2 := cl_b (lo := y * CH) (hi := (y + 1) * CH) (t := v * TH) lhy
      have k3 := cl_b (lo := y * CH) (hi := (y + 1) * CH) (t := (v + 1) * TH) lhy
      have ov := overlap_at (a := v * TH) (b := (v + 1) * TH) (lo := y * CH) (hi := (y + 1) * CH) (by omega) (by omega) (by omega) (by omega) lhy (by omega)
      generalize hA : cl (y * CH) ((y + 1) * CH) ((v + 1) * TH) - cl (y * CH) ((y + 1) * CH) (v * TH) = A at ov
      generalize hB : (y + 1) * CH - cl (y * CH) ((y + 1) * CH) ((v + 1) * TH) = B at ih
      have hAB : (y + 1) * CH - cl (y * CH) ((y + 1) * CH) (v * TH) = A + B := by omega
      rw [hAB, Int.mul_add, Int.add_mul] at hs
      have hPb := mulb (a := CW) (b := A) (A := 64) (B := 4225) (by omega) (by omega) (by omega) (by omega)
      have hQb := mulb (a := CW) (b := B) (A := 64) (B := 4225) (by omega) (by omega) (by omega) (by omega)
      have hcm : A * CW = CW * A := Int.mul_comm _ _
      obtain ⟨n1, s1, hn1, hs1⟩ := u_loop hP hL hR (area := area) (y := y) (x := x) (v := v) (high := A) hx0 hx hv0 hvc (by omega) (by omega) (CW - x * CW / TW).toNat (x * CW / TW) sum t0 u0le (by omega) hs0 (by rw [u0c, wt]; omega)
      rw [u0c, wt, hcm] at hs1
      have r0 := hs1 0 15 (by omega) (by omega) (fun u' a b c' => by
        have := idx_at hP hL hv0 hvc (show 0 ≤ u' by omega) b
        exact hR _ this.2.1 this.2.2)
      obtain ⟨n2, s2, hn2, hs2⟩ := ih (v + 1) s1 (by omega) (by omega) (by omega) (by omega) (by rw [hB]; omega)
      rw [hB] at hs2
      refine ⟨n2 + n1 + 2, s2, fun k p q oW oH out ho => ?_, fun lo hi hlo hhi hall => ?_⟩
      · rw [show k + (n2 + n1 + 2) = (k + n2 + n1) + 1 + 1 by omega]
        simp only [asset_Render.l2]
        rw [if_pos hvc, wv, wy, wyc1, decide_eq_true c]
        simp only [asset_Render.j5]
        rw [if_pos trivial, wv, wv1, wv2, wyc, wy, wyc1, ov, Option.bind_some, if_neg (by omega), wxc, td, hn1, hn2 k p q oW oH out ho]
      · have a1 := hs1 lo hi hlo hhi (fun u' a b c' => hall v u' (Int.le_refl _) hvc c a b c')
        have a2 := hs2 lo hi hlo hhi (fun v' u' a b c' => hall v' u' (by omega) b c')
        rw [hAB, Int.mul_add, Int.add_mul, Int.add_mul]
        omega
    · have g2 : cl (y * CH) ((y + 1) * CH) (v * TH) = (y + 1) * CH := cl_hi lhy (by omega)
      rw [g2, Int.sub_self, Int.mul_zero, Int.zero_mul] at hs
      refine ⟨2, sum, fun k p q oW oH out ho => ?_, fun lo hi _ _ _ => ?_⟩
      · rw [show k + 2 = (k + 1) + 1 by omega]
        simp only [asset_Render.l2]
        by_cases hvc : v < CH
        · rw [if_pos hvc, wv, wy, wyc1, decide_eq_false c]; exact fin sum hs0 (by omega) k v p q oW oH out ho
        · rw [if_neg hvc]; exact fin sum hs0 (by omega) k v p q oW oH out ho
      · rw [g2, Int.sub_self, Int.mul_zero, Int.zero_mul, Int.zero_mul]; omega
/-- One level of the new image. -/
theorem cell_at {area y x : Int} (har : area = CW * CH) (hx0 : 0 ≤ x) (hx : x < TW) (hy0 : 0 ≤ y) (hy : y < TH) :
    ∃ g : Int, (∃ n : Nat, ∀ (k : Nat) (oW oH : Int) (out : List Int), (out.length : Int) ≤ 5000 → asset_Render.l1 (k + n) area y TH y TW x W H L X Y CW CH TW TH oW oH out = asset_Render.l1 k area y TH y TW (x + 1) W H L X Y CW CH TW TH oW oH (out ++ [g])) ∧
      ∀ lo hi : Int, 0 ≤ lo → hi ≤ 15 → (∀ v' u', y * CH / TH ≤ v' → v' < CH → v' * TH < (y + 1) * CH → x * CW / TW ≤ u' → u' < CW → u' * TW < (x + 1) * CW → lo ≤ rd L ((Y + v') * W + X + u') ∧ rd L ((Y + v') * W + X + u') ≤ hi) → lo ≤ g ∧ g ≤ hi := by
  obtain ⟨hW, hH, hX, hY, hXW, hYH, h1, h2, h3, h4⟩ := id hP
  have f1 : (y + 1) * CH = y * CH + CH := by rw [Int.add_mul, Int.one_mul]
  have c1 := m64 (a := y) (b := CH) (by omega) (by omega) (by omega) (by omega)
  have c2 := m64 (a := y + 1) (b := CH) (by omega) (by omega) (by omega) (by omega)
  have lhy : y * CH ≤ (y + 1) * CH := by omega
  have wyc : wrap64 (y * CH) = y * CH := w64 (by omega) (by omega)
  obtain ⟨td, t0, t1, t2⟩ := tdiv_at (a := y * CH) (b := TH) c1.1 (by omega) h3
  have v0c : cl (y * CH) ((y + 1) * CH) (y * CH / TH * TH) = y * CH := cl_lo lhy t1
  have v0le : y * CH / TH ≤ CH := by
    refine div_le h3 ?_
    have : y * CH ≤ TH * CH := Int.mul_le_mul_of_nonneg_right (by omega) (by omega)
    have : TH * CH = CH * TH := Int.mul_comm _ _
    omega
  have wt : (y + 1) * CH - y * CH = CH := by omega
  have ha := m64 (a := CW) (b := CH) (by omega) (by omega) (by omega) (by omega)
  have ha1 : 1 ≤ area := by rw [har]; exact Int.mul_pos (by omega) (by omega)
  obtain ⟨n, s, hn, hs⟩ := v_loop hP hL hR har hx0 hx hy0 hy (CH - y * CH / TH).toNat (y * CH / TH) 0 t0 v0le (by omega) (by omega) (by rw [v0c, wt]; omega)
  rw [v0c, wt, ← har] at hs
  refine ⟨(2 * s + area) / (2 * area), ⟨n + 1, fun k oW oH out ho => ?_⟩, fun lo hi hlo hhi hall => ?_⟩
  · rw [show k + (n + 1) = (k + n) + 1 by omega, asset_Render.l1, if_pos hx, if_neg (by omega), wyc, td, hn k TH y oW oH out ho]
  · obtain ⟨a, b⟩ := hs lo hi hlo hhi hall
    constructor
    · refine div_ge (by omega) ?_
      rw [show lo * (2 * area) = 2 * (area * lo) by rw [Int.mul_left_comm, Int.mul_comm lo area]]
      omega
    · have : (2 * s + area) / (2 * area) < hi + 1 := by
        refine Int.ediv_lt_of_lt_mul (by omega) ?_
        rw [show (hi + 1) * (2 * area) = 2 * (area * hi) + 2 * area by rw [Int.add_mul, Int.one_mul, Int.mul_left_comm, Int.mul_comm hi area]]
        omega
      omega
end
end Go.Proofs.Ythagabjcoknogaa.Pure
namespace Go.Proofs.Ythagabjcoknogaa.Pure
open Go.RowKit Go.Proofs.Ythagabjcoknogaa.PImageFits Go.Proofs.YthagabjcoknogaaW.PrintWords Go.Proofs.YthagabjcoknogaaW.PrintLast Go.Proofs.YthagabjcoknogaaW.PrintMore
set_option linter.unusedVariables false
set_option linter.unusedSimpArgs false
theorem fm_congr {f g : Nat → List Int} : ∀ {l : List Nat}, (∀ x ∈ l, f x = g x) → l.flatMap f = l.flatMap g
  | [], _ => rfl
  | a :: l, h => by rw [List.flatMap_cons, List.flatMap_cons, h a (by simp), fm_congr (l := l) (fun x hx => h x (by simp [hx]))]
theorem grid (f : Nat → Int) (w : Nat) : ∀ h : Nat, ((List.range h).flatMap fun y => (List.range w).map fun x => f (y * w + x)) = (List.range (h * w)).map f
  | 0 => by simp
  | h + 1 => by
    rw [List.range_succ, List.flatMap_append, grid f w h, Nat.succ_mul, List.range_add, List.map_append]
    simp
theorem grid_mem {q : Nat → Nat → Int} {h w : Nat} {z : Int} (hz : z ∈ (List.range h).flatMap fun y => (List.range w).map (q y)) : ∃ y x, y < h ∧ x < w ∧ z = q y x := by
  simp only [List.mem_flatMap, List.mem_range, List.mem_map] at hz
  obtain ⟨y, hy, x, hx, rfl⟩ := hz
  exact ⟨y, x, hy, hx, rfl⟩
theorem grid_len (q : Nat → Nat → Int) (w : Nat) : ∀ h : Nat, ((List.range h).flatMap fun y => (List.range w).map (q y)).length = h * w
  | 0 => by simp
  | h + 1 => by rw [List.range_succ, List.flatMap_append, List.length_append, grid_len q w h, Nat.succ_mul]; simp
theorem all_map (L : List Int) : (List.range L.length).map (fun i : Nat => rd L (i : Int)) = L := by
  apply List.ext_getElem
  · simp
  · intro i h1 h2
    simp only [List.getElem_map, List.getElem_range]
    unfold rd
    simp [List.getD_eq_getElem?_getD, h2]
theorem range_front (f : Nat → Int) (d : Nat) : (List.range (d + 1)).map f = f 0 :: (List.range d).map fun i => f (i + 1) := by
  rw [List.range_succ_eq_map, List.map_cons, List.map_map]; rfl
section
variable {W H X Y CW CH : Int} {tw th : Nat} {L : List Int} {area : Int} {q : Nat → Nat → Int}
theorem row_at (htw : tw ≤ 64) {y : Nat} (hy : y < 64) (hq : ∀ x : Nat, x < tw → ∃ n : Nat, ∀ (k : Nat) (oW oH : Int) (out : List Int), (out.length : Int) ≤ 5000 → asset_Render.l1 (k + n) area y th y tw x W H L X Y CW CH tw th oW oH out = asset_Render.l1 k area y th y tw ((x : Int) + 1) W H L X Y CW CH tw th oW oH (out ++ [q y x])) :
    ∀ d x : Nat, x + d = tw → ∃ n : Nat, ∀ (k : Nat) (oW oH : Int) (out : List Int), out.length + d ≤ 5000 → asset_Render.l1 (k + n) area y th y tw x W H L X Y CW CH tw th oW oH out = asset_Render.l0 k area th ((y : Int) + 1) W H L X Y CW CH tw th oW oH (out ++ (List.range d).map fun i => q y (x + i)) := by
  intro d
  induction d with
  | zero =>
    intro x hx
    refine ⟨1, fun k oW oH out ho => ?_⟩
    rw [asset_Render.l1, if_neg (by omega), w64 (by omega) (by omega)]; simp
  | succ d ih =>
    intro x hx
    obtain ⟨n1, h1⟩ := hq x (by omega)
    obtain ⟨n2, h2⟩ := ih (x + 1) (by omega)
    refine ⟨n2 + n1, fun k oW oH out ho => ?_⟩
    rw [← Nat.add_assoc, h1 _ _ _ _ (by omega), show ((x : Int) + 1) = ((x + 1 : Nat) : Int) by omega, h2 _ _ _ _ (by simp; omega), range_front (fun i => q y (x + i)), List.append_assoc]
    congr 1
    congr 1
    simp only [List.singleton_append, Nat.add_zero, List.cons.injEq, true_and]
    apply List.map_congr_left; intro i _; congr 1; omega
theorem rows_at (htw : tw ≤ 64) (hth : th ≤ 64) (hq : ∀ y x : Nat, y < th → x < tw → ∃ n : Nat, ∀ (k : Nat) (oW oH : Int) (out : List Int), (out.length : Int) ≤ 5000 → asset_Render.l1 (k + n) area y th y tw x W H L X Y CW CH tw th oW oH out = asset_Render.l1 k area y th y tw ((x : Int) + 1) W H L X Y CW CH tw th oW oH (out ++ [q y x])) :
    ∀ d y : Nat, y + d = th → ∃ n : Nat, ∀ (k : Nat) (oW oH : Int) (out : List Int), out.length + d * tw ≤ 5000 → asset_Render.l0 (k + n) area th y W H L X Y CW CH tw th oW oH out = some (oW, oH, out ++ (List.range d).flatMap (fun j => (List.range tw).map (q (y + j))), 0) := by
  intro d
  induction d with
  | zero =>
    intro y hy
    refine ⟨1, fun k oW oH out ho => ?_⟩
    rw [asset_Render.l0, if_neg (by omega)]; simp
  | succ d ih =>
    intro y hy
    obtain ⟨n1, h1⟩ := row_at (y := y) (W := W) (H := H) (X := X) (Y := Y) (CW := CW) (CH := CH) (L := L) (area := area) (th := th) (q := q) htw (by omega) (fun x hx => hq y x (by omega) hx) tw 0 (by omega)
    obtain ⟨n2, h2⟩ := ih (y + 1) (by omega)
    refine ⟨n2 + n1 + 1, fun k oW oH out ho => ?_⟩
    rw [Nat.succ_mul] at ho
    rw [show k + (n2 + n1 + 1) = (k + n2 + n1) + 1 by omega, asset_Render.l0, if_pos (by omega), show (0 : Int) = ((0 : Nat) : Int) from rfl, h1 _ _ _ _ (by omega), show ((y : Int) + 1) = ((y + 1 : Nat) : Int) by omega, h2 _ _ _ _ (by simp; omega), List.range_succ_eq_map, List.flatMap_cons, List.append_assoc]
    congr 4
    rw [List.flatMap_map, show (fun i => q y (0 + i)) = q (y + 0) from funext fun i => by rw [Nat.zero_add]; rfl]
    congr 1
    congr 1
    apply fm_congr; intro j _
    show (List.range tw).map (q (y + 1 + j)) = (List.range tw).map (q (y + (j + 1)))
    rw [show y + 1 + j = y + (j + 1) by omega]
end
theorem render_at {W H X Y CW CH TW TH : Int} {L : List Int} (hr : Right W H L) (hP : Planned W H X Y CW CH TW TH) : ∃ out : List Int, Ev (fun k => asset_Render.f k W H L X Y CW CH TW TH) (TW, TH, out, 0) ∧
    (out.length : Int) = TW * TH ∧ (∀ lo hi : Int, 0 ≤ lo → hi ≤ 15 → (∀ z ∈ L, lo ≤ z ∧ z ≤ hi) → ∀ z ∈ out, lo ≤ z ∧ z ≤ hi) ∧ (TW = W → TH = H → out = L) := by
  obtain ⟨hW, hH, hX, hY, hXW, hYH, h1, h2, h3, h4⟩ := id hP
  obtain ⟨-, -, hL, hall⟩ := id hr
  have hR := (all_rd L).2 hall
  obtain ⟨tw, rfl⟩ := Int.eq_ofNat_of_zero_le (show 0 ≤ TW by omega)
  obtain ⟨th, rfl⟩ := Int.eq_ofNat_of_zero_le (show 0 ≤ TH by omega)
  have cells := fun (y x : Nat) (hy : y < th) (hx : x < tw) => cell_at (area := CW * CH) (y := (y : Int)) (x := (x : Int)) hP hL hR rfl (by omega) (by omega) (by omega) (by omega)
  let q : Nat → Nat → Int := fun y x => if h : y < th ∧ x < tw then (cells y x h.1 h.2).choose else 0
  have hq : ∀ y x (hy : y < th) (hx : x < tw), q y x = (cells y x hy hx).choose := fun y x hy hx => by simp only [q]; rw [dif_pos ⟨hy, hx⟩]
  have qs : ∀ y x (hy : y < th) (hx : x < tw), ∃ n : Nat, ∀ (k : Nat) (oW oH : Int) (out : List Int), (out.length : Int) ≤ 5000 → asset_Render.l1 (k + n) (CW * CH) y th y tw x W H L X Y CW CH tw th oW oH out = asset_Render.l1 k (CW * CH) y th y tw ((x : Int) + 1) W H L X Y CW CH tw th oW oH (out ++ [q y x]) := by
    intro y x hy hx
    rw [hq y x hy hx]
    exact (cells y x hy hx).choose_spec.1
  have qb := fun y x (hy : y < th) (hx : x < tw) => (cells y x hy hx).choose_spec.2
  obtain ⟨n, hn⟩ := rows_at (W := W) (H := H) (X := X) (Y := Y) (CW := CW) (CH := CH) (L := L) (area := CW * CH) (q := q) (by omega : tw ≤ 64) (by omega : th ≤ 64) (fun y x hy hx => qs y x hy hx) th 0 (by omega)
  have hsz : th * tw ≤ 64 * 64 := Nat.mul_le_mul (by omega) (by omega)
  refine ⟨(List.range th).flatMap (fun j => (List.range tw).map (q j)), ?_, ?_, ?_, ?_⟩
  · obtain ⟨e, ⟨K, hK⟩, hiff⟩ := check_at W H L
    obtain rfl := hiff.2 hr
    refine ⟨K + n + 2, fun k hk => ?_⟩
    obtain ⟨j, rfl⟩ : ∃ j, k = (j + n) + 1 + 1 := ⟨k - n - 2, by omega⟩
    show asset_Render.f _ W H L X Y CW CH tw th = _
    have wa := m64 (a := CW) (b := CH) (by omega) (by omega) (by omega) (by omega)
    unfold asset_Render.f
    have hK' : ∀ k, K ≤ k → asset_CheckImage.f k W H L = some 0 := hK
    rw [hK' _ (by omega), Option.bind_some, if_pos rfl, if_neg (by omega), if_neg (by omega), if_neg (by omega), decide_eq_false (by omega : ¬ CH < 1), asset_Render.j0, if_neg (by simp), if_neg (by omega), w64 (n := W - CW) (by omega) (by omega), if_neg (by omega), if_neg (by omega), w64 (n := H - CH) (by omega) (by omega), decide_eq_false (by omega : ¬ Y > H - CH), asset_Render.j1, if_neg (by simp), if_neg (by omega), if_neg (by omega), if_neg (by omega), if_neg (by omega), w64 (n := CW * CH) (by omega) (by omega)]
    have := hn j tw th [] (by simp; omega)
    simp only [List.nil_append, Nat.zero_add] at this
    exact this
  · rw [grid_len]; rw [Int.natCast_mul, Int.mul_comm]
  · intro lo hi hlo hhi hz z hzm
    obtain ⟨y, x, hy, hx, rfl⟩ := grid_mem hzm
    rw [hq y x hy hx]
    refine qb y x hy hx lo hi hlo hhi (fun v' u' a b c d e f => ?_)
    have := idx_at hP hL (v := v') (u := u') (Int.le_trans (Int.ediv_nonneg (Int.mul_nonneg (by omega) (by omega)) (by omega)) a) b (Int.le_trans (Int.ediv_nonneg (Int.mul_nonneg (by omega) (by omega)) (by omega)) d) e
    exact hz _ (rd_mem this.2.1 this.2.2)
  · intro eW eH
    obtain rfl : CW = W := by omega
    obtain rfl : CH = H := by omega
    obtain rfl : X = 0 := by omega
    obtain rfl : Y = 0 := by omega
    have hlen : L.length = th * tw := by
      have : (L.length : Int) = ((th * tw : Nat) : Int) := by rw [hL, ← eW, ← eH, Int.natCast_mul, Int.mul_comm]
      omega
    have hqv : ∀ y x, y < th → x < tw → q y x = rd L ((y * tw + x : Nat) : Int) := by
      intro y x hy hx
      rw [hq y x hy hx]
      have e0 : ((y * tw + x : Nat) : Int) = (0 + (y : Int)) * CW + 0 + x := by rw [← eW]; simp
      have inr : (0 : Int) ≤ ((y * tw + x : Nat) : Int) ∧ ((y * tw + x : Nat) : Int) < L.length := by
        have := idx_at hP hL (v := (y : Int)) (u := (x : Int)) (by omega) (by omega) (by omega) (by omega)
        rw [e0]; exact this.2
      have lev := hR _ inr.1 inr.2
      have := qb y x hy hx (rd L ((y * tw + x : Nat) : Int)) (rd L ((y * tw + x : Nat) : Int)) lev.1 lev.2 (fun v' u' a b c d e f => by
        rw [eH] at a c
        rw [eW] at d f
        rw [Int.mul_ediv_cancel _ (by omega)] at a d
        have c' : v' < (y : Int) + 1 := Int.lt_of_mul_lt_mul_right c (by omega)
        have f' : u' < (x : Int) + 1 := Int.lt_of_mul_lt_mul_right f (by omega)
        obtain rfl : v' = y := by omega
        obtain rfl : u' = x := by omega
        rw [e0]; exact ⟨Int.le_refl _, Int.le_refl _⟩)
      omega
    have g := grid (fun i => rd L (i : Int)) tw th
    rw [← hlen, all_map] at g
    rw [← g]
    apply fm_congr
    intro y hy
    apply List.map_congr_left
    intro x hx
    exact hqv y x (List.mem_range.1 hy) (List.mem_range.1 hx)
end Go.Proofs.Ythagabjcoknogaa.Pure
namespace Go.Proofs.Ythagabjcoknogaa.Pure
open Go.RowKit Go.Proofs.Ythagabjcoknogaa.PImageFits Go.Proofs.YthagabjcoknogaaW.PrintWords Go.Proofs.YthagabjcoknogaaW.PrintLast Go.Proofs.YthagabjcoknogaaW.PrintMore
set_option linter.unusedVariables false
set_option linter.unusedSimpArgs false
theorem equal_self (L : List Int) (hn : (L.length : Int) ≤ 5000) : ∀ d : Nat, ∀ i : Int, 0 ≤ i → i ≤ L.length → (L.length : Int) - i = d → ∀ k, slices_Equal_int_int.l0 (d + 1 + k) L L L.length i = some true := by
  intro d
  induction d with
  | zero =>
    intro i h0 h1 hd k
    rw [show 0 + 1 + k = k + 1 by omega, slices_Equal_int_int.l0, if_neg (by omega)]
  | succ d ih =>
    intro i h0 h1 hd k
    rw [show d + 1 + 1 + k = (d + 1 + k) + 1 by omega, slices_Equal_int_int.l0, if_pos (by omega), if_pos h0, if_pos (by omega), if_pos (by omega), if_pos rfl, w64 (by omega) (by omega)]
    exact ih (i + 1) (by omega) (by omega) (by omega) k
theorem foldl_mx (l : List Int) : ∀ a b : Int, (a ≤ b ∧ ∀ z ∈ l, z ≤ b) ↔ l.foldl mx a ≤ b := by
  induction l with
  | nil => intro a b; simp
  | cons x l ih =>
    intro a b
    rw [List.foldl_cons, ← ih]
    have : mx a x ≤ b ↔ a ≤ b ∧ x ≤ b := by unfold mx; split <;> omega
    rw [this]; simp [and_assoc]
theorem foldl_mn (l : List Int) : ∀ a b : Int, (b ≤ a ∧ ∀ z ∈ l, b ≤ z) ↔ b ≤ l.foldl mn a := by
  induction l with
  | nil => intro a b; simp
  | cons x l ih =>
    intro a b
    rw [List.foldl_cons, ← ih]
    have : b ≤ mn a x ↔ b ≤ a ∧ b ≤ x := by unfold mn; split <;> omega
    rw [this]; simp [and_assoc]
theorem maxL_le {l : List Int} (h : l ≠ []) (b : Int) : maxL l ≤ b ↔ ∀ z ∈ l, z ≤ b := by
  match l, h with
  | x :: xs, _ => exact (foldl_mx xs x b).symm.trans (by simp)
theorem minL_ge {l : List Int} (h : l ≠ []) (b : Int) : b ≤ minL l ↔ ∀ z ∈ l, b ≤ z := by
  match l, h with
  | x :: xs, _ => exact (foldl_mn xs x b).symm.trans (by simp)
theorem max_f {l : List Int} (h : l ≠ []) (hl : (l.length : Int) ≤ 5000) : slices_Max_int_int.f l = some (maxL l) := by unfold slices_Max_int_int.f; rw [if_neg h, if_pos (by omega)]
theorem min_f {l : List Int} (h : l ≠ []) (hl : (l.length : Int) ≤ 5000) : slices_Min_int_int.f l = some (minL l) := by unfold slices_Min_int_int.f; rw [if_neg h, if_pos (by omega)]
theorem ImageFits (W H : Int) (L : List Int) (way ww wh : Int) : ∃ k, mastkeep2_ImageFits.f k W H L way ww wh = some true := by
  obtain ⟨⟨X, Y, CW, CH, TW, TH, e⟩, ⟨K1, hp⟩, hr⟩ := plan_at W H way ww wh
  replace hp : ∀ k, K1 ≤ k → asset_Plan.f k W H way ww wh = some (X, Y, CW, CH, TW, TH, e) := hp
  rcases hr with ⟨he, hP⟩ | ⟨he, h1, h2, h3, h4, h5, h6⟩
  · replace he : e = 0 := he
    replace hP : Planned W H X Y CW CH TW TH := hP
    subst he
    obtain ⟨c, ⟨K2, hc⟩, hiff⟩ := check_at W H L
    replace hc : ∀ k, K2 ≤ k → asset_CheckImage.f k W H L = some c := hc
    by_cases hR : Right W H L
    · obtain rfl := hiff.2 hR
      obtain ⟨out, ⟨K3, ho⟩, hlen, hbd, heq⟩ := render_at hR hP
      replace ho : ∀ k, K3 ≤ k → asset_Render.f k W H L X Y CW CH TW TH = some (TW, TH, out, 0) := ho
      obtain ⟨sW, sH, hX, hY, hXW, hYH, t1, t2, t3, t4⟩ := id hP
      obtain ⟨-, -, hL, hall⟩ := id hR
      have hT := m64 (a := TW) (b := TH) (by omega) (by omega) (by omega) (by omega)
      have hT1 : 1 ≤ TW * TH := Int.mul_pos (by omega) (by omega)
      have hS := m64 (a := W) (b := H) (by omega) (by omega) (by omega) (by omega)
      have hS1 : 1 ≤ W * H := Int.mul_pos (by omega) (by omega)
      have ne1 : out ≠ [] := by intro h; rw [h] at hlen; simp at hlen; omega
      have ne2 : L ≠ [] := by intro h; rw [h] at hL; simp at hL; omega
      have R2 : Right TW TH out := ⟨by omega, by omega, hlen, hbd 0 15 (by omega) (by omega) hall⟩
      obtain ⟨c2, ⟨K4, hc2⟩, hiff2⟩ := check_at TW TH out
      obtain rfl := hiff2.2 R2
      replace hc2 : ∀ k, K4 ≤ k → asset_CheckImage.f k TW TH out = some 0 := hc2
      have hmx : maxL out ≤ maxL L := by
        rw [maxL_le ne1]
        have h1 := (maxL_le ne2 (maxL L)).1 (Int.le_refl _)
        have h15 : maxL L ≤ 15 := (maxL_le ne2 15).2 fun z hz => (hall z hz).2
        exact fun z hz => (hbd 0 (maxL L) (by omega) h15 (fun z hz => ⟨(hall z hz).1, h1 z hz⟩) z hz).2
      have hmn : minL L ≤ minL out := by
        rw [minL_ge ne1]
        have h1 := (minL_ge ne2 (minL L)).1 (Int.le_refl _)
        have h0 : 0 ≤ minL L := (minL_ge ne2 0).2 fun z hz => (hall z hz).1
        exact fun z hz => (hbd (minL L) 15 h0 (by omega) (fun z hz => ⟨h1 z hz, (hall z hz).2⟩) z hz).1
      refine ⟨K1 + K2 + K3 + K4 + L.length + 10, ?_⟩
      obtain ⟨j, hj⟩ : ∃ j, K1 + K2 + K3 + K4 + L.length + 10 = j + 3 := ⟨K1 + K2 + K3 + K4 + L.length + 7, by omega⟩
      unfold mastkeep2_ImageFits.f mastkeep2_awakeAsset.f
      rw [Option.bind_some, if_pos rfl, hp _ (by omega), Option.bind_some, if_pos rfl, ho _ (by omega), Option.bind_some, hc _ (by omega), Option.bind_some, if_pos rfl, if_pos rfl, if_pos rfl, if_pos rfl, hc2 _ (by omega), Option.bind_some, hj]
      have j2f : mastkeep2_ImageFits.j2 (j + 1) false W H L TW TH out = some true := by
        rw [mastkeep2_ImageFits.j2, if_neg (by simp), max_f ne1 (by omega), Option.bind_some, max_f ne2 (by omega), Option.bind_some, if_pos hmx, min_f ne1 (by omega), Option.bind_some, min_f ne2 (by omega), Option.bind_some, decide_eq_true hmn]
      show mastkeep2_ImageFits.j0 (j + 2 + 1) false W H L X Y CW CH TW TH TW TH out = some true
      rw [mastkeep2_ImageFits.j0, if_neg (by simp), if_neg (by omega), show ((L.length : Int) == 0) = false from beq_eq_false_iff_ne.2 (by omega), mastkeep2_ImageFits.j1, if_neg (by simp)]
      by_cases eW : TW = W
      · rw [if_pos eW]
        by_cases eH : TH = H
        · have eq := heq eW eH
          subst eq
          rw [show (TH == H) = true from beq_iff_eq.2 eH, mastkeep2_ImageFits.j2, if_pos rfl]
          unfold slices_Equal_int_int.f
          rw [if_pos rfl]
          have := equal_self out (by omega) out.length 0 (by omega) (by omega) (by omega) (j - out.length - 1)
          rw [show out.length + 1 + (j - out.length - 1) = j by omega] at this
          rw [this]; rfl
        · rw [show (TH == H) = false from beq_eq_false_iff_ne.2 eH]; exact j2f
      · rw [if_neg eW]; exact j2f
    · have hcn : c ≠ 0 := fun h => hR (hiff.1 h)
      refine ⟨K1 + K2, ?_⟩
      unfold mastkeep2_ImageFits.f mastkeep2_awakeAsset.f
      rw [Option.bind_some, if_pos rfl, hp _ (by omega), Option.bind_some, if_pos rfl]
      unfold asset_Render.f
      rw [hc _ (by omega), Option.bind_some, if_neg hcn, Option.bind_some, Option.bind_some, if_neg hcn, Option.bind_some]
      simp
  · refine ⟨K1, ?_⟩
    replace he : e ≠ 0 := he
    replace h1 : X = 0 := h1
    replace h2 : Y = 0 := h2
    replace h3 : CW = 0 := h3
    replace h4 : CH = 0 := h4
    replace h5 : TW = 0 := h5
    replace h6 : TH = 0 := h6
    subst h1 h2 h3 h4 h5 h6
    unfold mastkeep2_ImageFits.f mastkeep2_awakeAsset.f
    rw [Option.bind_some, if_pos rfl, hp _ (by omega), Option.bind_some, if_neg he]
    rfl
end Go.Proofs.Ythagabjcoknogaa.Pure
