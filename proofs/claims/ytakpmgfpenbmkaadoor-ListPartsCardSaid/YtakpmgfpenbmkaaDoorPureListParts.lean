/- The parts of a pager are in order, without gaps, each full but the last, and cover all items; otherwise the range is refused; no condition. -/
import Derived.Test.YtakpmgfpenbmkaaDoorPListPartsx2
namespace Go.Proofs.YtakpmgfpenbmkaaDoor.Pure
open Go.RowKit Go.Proofs.YtakpmgfpenbmkaaDoor.PListParts Go.Proofs.YtakpmgfpenbmkaaDoorW.PrintWords Go.Proofs.YtakpmgfpenbmkaaDoorW.PrintLast Go.Proofs.YtakpmgfpenbmkaaDoorW.PrintMore

theorem w64 {n : Int} (h0 : -9223372036854775808 ≤ n) (h1 : n < 9223372036854775808) : wrap64 n = n := by unfold wrap64; omega
theorem mn_at (a b : Nat) : mn (a : Int) (b : Int) = ((min a b : Nat) : Int) := by
  unfold mn; split <;> omega
/-- Part i of M items, S each. -/
def pt (M S i : Nat) : S28 := ⟨((i + 1 : Nat) : Int), ((i * S : Nat) : Int), ((min (i * S + S) M : Nat) : Int)⟩
def pl (M S i : Nat) : List S28 := (List.range i).map (pt M S)
theorem pl_len (M S i : Nat) : (pl M S i).length = i := by simp [pl]
theorem pl_succ (M S i : Nat) : pl M S (i + 1) = pl M S i ++ [pt M S i] := by simp [pl, List.range_succ]
theorem pl_at {M S n i : Nat} (h : i < n) : rd_T28 (pl M S n) (i : Int) = pt M S i := by
  unfold rd_T28 pl
  rw [Int.toNat_natCast, List.getD, List.getElem?_map, List.getElem?_range h]; rfl
/-- How many parts: each but the first begins ahead of the end, and all together reach it. -/
theorem parts (M S : Nat) (hS : 1 ≤ S) : ∃ n, 1 ≤ n ∧ n ≤ M + 1 ∧ (∀ j, j < n → j * S < M ∨ j = 0) ∧ M ≤ n * S := by
  by_cases h0 : M = 0
  · subst h0
    exact ⟨1, by omega, by omega, fun j hj => .inr (by omega), by omega⟩
  · have hd := Nat.div_add_mod (M + S - 1) S
    have hm := Nat.mod_lt (M + S - 1) (show 0 < S by omega)
    refine ⟨(M + S - 1) / S, ?_, ?_, ?_, ?_⟩
    · exact (Nat.le_div_iff_mul_le (by omega)).2 (by omega)
    · have : (M + S - 1) / S ≤ M := by
        refine Nat.div_le_of_le_mul ?_
        have : M - 1 ≤ S * (M - 1) := Nat.le_mul_of_pos_left _ (by omega)
        have e : S * M = S * (M - 1) + S := by
          conv => lhs; rw [show M = (M - 1) + 1 by omega]
          rw [Nat.mul_add, Nat.mul_one]
        omega
      omega
    · intro j hj
      have h1 := (Nat.le_div_iff_mul_le (show 0 < S by omega)).1 (Nat.succ_le_of_lt hj)
      have e : (j + 1) * S = j * S + S := Nat.succ_mul j S
      left
      have h2 : (j + 1) * S ≤ M + S - 1 := h1
      omega
    · rw [Nat.mul_comm]
      generalize S * ((M + S - 1) / S) = q at *
      omega
section
variable {M S n : Nat} (hM : M ≤ 2000) (hS : 1 ≤ S) (hS2 : S ≤ 2000) (h1 : 1 ≤ n) (hn : n ≤ M + 1) (hj : ∀ j, j < n → j * S < M ∨ j = 0) (hend : M ≤ n * S)
include hM hS hS2 h1 hn hj hend
theorem pager_at : ∀ t i : Nat, t + i = n → ∃ k, list_Pager.l0 k (M : Int) (S : Int) (pl M S i) ((i * S : Nat) : Int) = some (pl M S n, 0) := by
  intro t
  induction t with
  | zero =>
    intro i hi
    obtain rfl : i = n := by omega
    have hpos : 1 ≤ i * S := Nat.le_trans h1 (Nat.le_mul_of_pos_right _ (by omega))
    exact ⟨1, by rw [list_Pager.l0, if_neg (by omega), if_neg (by omega)]⟩
  | succ t ih =>
    intro i hi
    obtain ⟨k, hk⟩ := ih (i + 1) (by omega)
    have hlen := pl_len M S i
    have hb : i * S ≤ 2000 := by
      rcases hj i (by omega) with h | h
      · omega
      · rw [h, Nat.zero_mul]; omega
    have e1 : (i + 1) * S = i * S + S := Nat.succ_mul i S
    have step : list_Pager.l0 k (M : Int) (S : Int) (pl M S i ++ [(⟨wrap64 (((pl M S i).length : Int) + 1), ((i * S : Nat) : Int), mn (wrap64 (((i * S : Nat) : Int) + (S : Int))) (M : Int)⟩ : S28)]) (wrap64 (((i * S : Nat) : Int) + (S : Int))) = some (pl M S n, 0) := by
      rw [hlen, w64 (n := ((i * S : Nat) : Int) + (S : Int)) (by omega) (by omega), w64 (by omega) (by omega)]
      rw [show ((i * S : Nat) : Int) + (S : Int) = ((i * S + S : Nat) : Int) by omega, mn_at, ← e1]
      rw [pl_succ] at hk
      rw [← hk]
      unfold pt
      rw [e1]
      rfl
    refine ⟨k + 1, ?_⟩
    rw [list_Pager.l0]
    by_cases c : ((i * S : Nat) : Int) < (M : Int)
    · rw [if_pos c, if_pos (by rw [hlen]; omega)]
      exact step
    · have h0 : i = 0 := by
        rcases hj i (by omega) with h | h
        · omega
        · exact h
      rw [if_neg c, if_pos (by rw [h0, Nat.zero_mul]; rfl), if_pos (by rw [hlen, h0]; rfl), if_pos (by rw [hlen]; omega)]
      exact step
/-- Where part j ends: where the next begins. -/
def upto (M S : Nat) : Nat → Nat
  | 0 => 0
  | j + 1 => min (j * S + S) M
omit hM hS hS2 h1 hn hj hend in
theorem upto_start {M S : Nat} {j n : Nat} (hj : ∀ j, j < n → j * S < M ∨ j = 0) (h : j < n) : upto M S j = j * S := by
  cases j with
  | zero => simp [upto]
  | succ j =>
    show min (j * S + S) M = (j + 1) * S
    have e1 : (j + 1) * S = j * S + S := Nat.succ_mul j S
    rcases hj (j + 1) h with h | h <;> omega
set_option maxHeartbeats 1000000 in
theorem check_at : ∀ t j : Nat, t + j = n → ∃ k, mastkeep2_ListParts.l0 k (M : Int) (S : Int) (pl M S n) ((upto M S j : Nat) : Int) (pl M S n) (n : Int) (j : Int) = some true := by
  intro t
  induction t with
  | zero =>
    intro j hj2
    obtain rfl : j = n := by omega
    have hu : upto M S j = M := by
      cases j with
      | zero => omega
      | succ j =>
        have e1 : (j + 1) * S = j * S + S := Nat.succ_mul j S
        show min (j * S + S) M = M
        omega
    refine ⟨1, ?_⟩
    rw [mastkeep2_ListParts.l0, if_neg (by omega), if_pos (by rw [hu]), pl_len, decide_eq_true (by omega)]
  | succ t ih =>
    intro j hj2
    have hih := Aside0.mk (ih (j + 1) (by omega))
    clear ih
    have hb : j * S ≤ 2000 := by
      rcases hj j (by omega) with h | h
      · omega
      · rw [h, Nat.zero_mul]; omega
    have hu := upto_start hj (show j < n by omega)
    have eu : upto M S (j + 1) = min (j * S + S) M := rfl
    have hle : j * S ≤ M := by
      rcases hj j (by omega) with h | h
      · omega
      · rw [h, Nat.zero_mul]; omega
    obtain ⟨q, hq⟩ : ∃ q, min (j * S + S) M = q := ⟨_, rfl⟩
    rw [hq] at eu
    have hqle : j * S ≤ q ∧ q ≤ j * S + S ∧ q ≤ M := by omega
    obtain ⟨p, hp⟩ : ∃ p, j * S = p := ⟨_, rfl⟩
    rw [hp] at hu hb hle
    have hjp : p < M ∨ j = 0 ∧ p = 0 := by
      rcases hj j (by omega) with h | h
      · left; omega
      · right; exact ⟨h, by rw [← hp, h, Nat.zero_mul]⟩
    obtain ⟨k, hk⟩ := hih.out
    have fin : (if (q : Int) = (p : Int) then (if (M : Int) > 0 then (some false) else mastkeep2_ListParts.l0 k (M : Int) (S : Int) (pl M S n) (q : Int) (pl M S n) (n : Int) ((j + 1 : Nat) : Int)) else mastkeep2_ListParts.l0 k (M : Int) (S : Int) (pl M S n) (q : Int) (pl M S n) (n : Int) ((j + 1 : Nat) : Int)) = some true := by
      rw [eu] at hk
      by_cases c : (q : Int) = (p : Int)
      · rw [if_pos c]
        have : ¬ (M : Int) > 0 := by clear hk; omega
        rw [if_neg this]
        exact hk
      · rw [if_neg c]
        exact hk
    have hfull : (j : Int) < (n : Int) - 1 → (q : Int) - (p : Int) = (S : Int) := by
      intro c
      have e1 : (j + 1) * S = j * S + S := Nat.succ_mul j S
      rcases hj (j + 1) (by clear hk fin; omega) with h | h <;> (clear hk fin; omega)
    clear hk
    have q1 : (j : Int) < (n : Int) := by omega
    have q2 : (0 : Int) ≤ (j : Int) := by omega
    have q3 : (j : Int) < ((pl M S n).length : Int) := by rw [pl_len]; exact q1
    have q4 : ¬ ((q : Int) < (p : Int)) := by omega
    have q5 : ¬ ((q : Int) - (p : Int) > (S : Int)) := by omega
    have q6 : j < n := by omega
    have hqle' : p ≤ q ∧ q ≤ p + S ∧ q ≤ M := by omega
    obtain ⟨wj, wd, wn⟩ : wrap64 ((j : Int) + 1) = ((j + 1 : Nat) : Int) ∧ wrap64 ((q : Int) - (p : Int)) = (q : Int) - (p : Int) ∧ wrap64 (((pl M S n).length : Int) - 1) = (n : Int) - 1 := by
      rw [pl_len]
      exact ⟨w64 (n := (j : Int) + 1) (by omega) (by omega), w64 (by omega) (by omega), w64 (by omega) (by omega)⟩
    have f0 : (pt M S j).f0 = ((j + 1 : Nat) : Int) := rfl
    have f1 : (pt M S j).f1 = (p : Int) := by show ((j * S : Nat) : Int) = _; rw [hp]
    have f2 : (pt M S j).f2 = (q : Int) := by show ((min (j * S + S) M : Nat) : Int) = _; rw [hq]
    refine ⟨k + 1, ?_⟩
    rw [mastkeep2_ListParts.l0, if_pos q1, if_pos q2, if_pos q3, pl_at q6, f0, f1, f2, wj, wd, wn, hu]
    rw [if_pos rfl, if_pos rfl, if_neg q4, if_neg q5]
    by_cases c : (j : Int) < (n : Int) - 1
    · rw [if_pos c, if_pos (hfull c)]
      exact fin
    · rw [if_neg c]
      exact fin
end
theorem ListParts : mastkeep2_ListParts.Pure := by
  intro a0 a1 _ _
  have bad : ∀ b : Bool, b = true → list_Pager.j0 1 a0 a1 b = some (([] : List S28), 2) := fun b hb => by rw [list_Pager.j0, if_pos hb]
  by_cases g : 0 ≤ a0 ∧ a0 ≤ 2000 ∧ 1 ≤ a1 ∧ a1 ≤ 2000
  · obtain ⟨g0, g1, g2, g3⟩ := g
    obtain ⟨M, rfl⟩ := Int.eq_ofNat_of_zero_le g0
    obtain ⟨S, rfl⟩ := Int.eq_ofNat_of_zero_le (show 0 ≤ a1 by omega)
    obtain ⟨n, n1, n2, n3, n4⟩ := parts M S (by omega)
    obtain ⟨k1, h1⟩ := pager_at (by omega) (by omega) (by omega) n1 n2 n3 n4 n 0 rfl
    obtain ⟨k2, h2⟩ := check_at (by omega) (by omega) (by omega) n1 n2 n3 n4 n 0 rfl
    have e1 := at_rounds (fun k => (list_Pager.mono_l k).2 (M : Int) (S : Int) (pl M S 0) ((0 * S : Nat) : Int)) (show k1 ≤ k1 + k2 by omega) h1
    have e2 := at_rounds (fun k => mastkeep2_ListParts.mono_l k (M : Int) (S : Int) (pl M S n) ((upto M S 0 : Nat) : Int) (pl M S n) (n : Int) 0) (show k2 ≤ k1 + k2 + 1 by omega) h2
    have hp : list_Pager.f (k1 + k2 + 1) (M : Int) (S : Int) = some (pl M S n, 0) := by
      unfold list_Pager.f
      rw [if_neg (by omega), if_neg (by omega), if_neg (by omega), decide_eq_false (by omega), list_Pager.j0, if_neg (by decide)]
      rw [Nat.zero_mul] at e1
      exact e1
    refine ⟨k1 + k2 + 1, ?_⟩
    unfold mastkeep2_ListParts.f mastkeep2_awakeList.f
    rw [Option.bind_some, if_pos rfl, hp, Option.bind_some, if_pos rfl]
    dsimp only
    rw [pl_len]
    exact e2
  · refine ⟨1, ?_⟩
    have hp : list_Pager.f 1 a0 a1 = some (([] : List S28), 2) := by
      unfold list_Pager.f
      by_cases c0 : a0 < 0
      · rw [if_pos c0]; exact bad _ rfl
      rw [if_neg c0]
      by_cases c1 : a0 > 2000
      · rw [if_pos c1]; exact bad _ rfl
      rw [if_neg c1]
      by_cases c2 : a1 < 1
      · rw [if_pos c2]; exact bad _ rfl
      rw [if_neg c2]
      exact bad _ (decide_eq_true (by omega))
    unfold mastkeep2_ListParts.f mastkeep2_awakeList.f
    rw [Option.bind_some, if_pos rfl, hp, Option.bind_some, if_neg (by decide)]
    rfl
end Go.Proofs.YtakpmgfpenbmkaaDoor.Pure
