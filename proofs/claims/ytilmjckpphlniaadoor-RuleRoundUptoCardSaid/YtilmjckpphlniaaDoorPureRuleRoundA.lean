/- For RuleRound: what the checks of a rule compute; a rule without a fault is right. -/
import Derived.Test.YtilmjckpphlniaaDoorRuK
namespace Go.Proofs.YtilmjckpphlniaaDoor.Pure
open Go.RowKit Go.Proofs.YtilmjckpphlniaaDoor.PRuleRound Go.Proofs.YtilmjckpphlniaaDoorW.PrintWords Go.Proofs.YtilmjckpphlniaaDoorW.PrintLast Go.Proofs.YtilmjckpphlniaaDoorW.PrintMore
set_option linter.unusedVariables false
set_option linter.unusedSimpArgs false
/-- from some fuel on -/
def Ev {α : Type} (f : Nat → Option α) (r : α) : Prop := ∃ k0, ∀ k, k0 ≤ k → f k = some r
section
variable {α β : Type} {f g : Nat → Option α} {r : α}
theorem Ev.const (r : α) : Ev (fun _ => some r) r := ⟨0, fun _ _ => rfl⟩
theorem Ev.step (h : Ev g r) (hf : ∀ k, f (k + 1) = g k) : Ev f r := by
  obtain ⟨k0, h⟩ := h
  refine ⟨k0 + 1, fun k hk => ?_⟩
  obtain ⟨k, rfl⟩ : ∃ k', k = k' + 1 := ⟨k - 1, by omega⟩
  rw [hf]
  exact h k (by omega)
theorem Ev.bind {p : Nat → Option β} {b : β} {q : Nat → β → Option α} (h : Ev p b) (hq : Ev (fun k => q k b) r) : Ev (fun k => (p k).bind (q k)) r := by
  obtain ⟨k0, h⟩ := h
  obtain ⟨k1, hq⟩ := hq
  refine ⟨max k0 k1, fun k hk => ?_⟩
  show (p k).bind (q k) = _
  rw [h k (by omega)]
  exact hq k (by omega)
end
/-- how deep, how wide -/
def Fits : Nat → S47 → Prop
  | 0, _ => False
  | n + 1, t => t.f4.length ≤ 2097152 ∧ ∀ k ∈ t.f4, Fits n k
theorem fits_mono : ∀ m n, m ≤ n → ∀ t, Fits m t → Fits n t
  | 0, _, _, _, h => h.elim
  | m + 1, 0, h, _, _ => by omega
  | m + 1, n + 1, h, t, ht => ⟨ht.1, fun k hk => fits_mono m n (by omega) k (ht.2 k hk)⟩
theorem drop_rd {xs : List S47} {i : Nat} (h : i < xs.length) : xs.drop i = rd_T47 xs (i : Int) :: xs.drop (i + 1) := by
  rw [rd47_get h, List.drop_eq_getElem_cons h]
theorem rd_mem {xs : List S47} {i : Nat} (h : i < xs.length) : rd_T47 xs (i : Int) ∈ xs := by rw [rd47_get h]; exact List.getElem_mem _
/-! ### tests -/
def lt (f : S47 → Int) : Int → List S47 → Int
  | acc, [] => acc
  | acc, k :: l => if acc > 20 then acc else lt f (acc + f k) l
def pt : Nat → S47 → Int
  | 0, _ => 1
  | n + 1, t => lt (pt n) 1 t.f4
abbrev tF (t : S47) (k : Nat) := lang_tests.f k t.f0 t.f1 t.f2 t.f3 t.f4
theorem lt_bound {f : S47 → Int} {B : Int} : ∀ (l : List S47) (acc : Int), (∀ t ∈ l, 1 ≤ f t ∧ f t ≤ B) → 1 ≤ acc → acc ≤ 20 + B → acc ≤ lt f acc l ∧ lt f acc l ≤ 20 + B
  | [], acc, h, h1, h2 => ⟨Int.le_refl _, h2⟩
  | k :: l, acc, h, h1, h2 => by
    rw [lt]
    have hk := h k (by simp)
    split
    · exact ⟨Int.le_refl _, h2⟩
    · have := lt_bound l (acc + f k) (fun t ht => h t (by simp [ht])) (by omega) (by omega)
      omega
theorem lt_small {f : S47 → Int} : ∀ (l : List S47) (acc : Int), (∀ t ∈ l, 1 ≤ f t) → 1 ≤ acc → lt f acc l ≤ 20 → lt f acc l = acc + (l.map f).sum ∧ acc ≤ lt f acc l ∧ ∀ t ∈ l, f t ≤ 20
  | [], acc, h, h1, h2 => ⟨by simp [lt], by simp [lt], fun t ht => by cases ht⟩
  | k :: l, acc, h, h1, h2 => by
    rw [lt] at h2 ⊢
    have hk := h k (by simp)
    split at h2
    · omega
    · rename_i hc
      obtain ⟨e, e2, hl⟩ := lt_small l (acc + f k) (fun t ht => h t (by simp [ht])) (by omega) h2
      rw [if_neg hc]
      refine ⟨by rw [e]; simp; omega, by omega, fun t ht => ?_⟩
      rcases List.mem_cons.1 ht with rfl | ht
      · omega
      · exact hl t ht
theorem tests_loop (f : S47 → Int) (xs : List S47) (B : Int) (hB : B ≤ 1000000000) (hlen : xs.length ≤ 2097152) (hf : ∀ t ∈ xs, Ev (tF t) (f t)) (hb : ∀ t ∈ xs, 1 ≤ f t ∧ f t ≤ B) : ∀ (m i : Nat) (acc : Int), i + m = xs.length → 1 ≤ acc → acc ≤ 20 + B → Ev (fun k => lang_tests.l0 k acc xs (xs.length : Int) (i : Int)) (lt f acc (xs.drop i))
  | 0, i, acc, hm, h1, h2 => by
    rw [List.drop_eq_nil_of_le (by omega), lt]
    exact (Ev.const acc).step (fun k => by rw [lang_tests.l0, if_neg (by omega)])
  | m + 1, i, acc, hm, h1, h2 => by
    have hi : i < xs.length := by omega
    rw [drop_rd hi, lt]
    have hk := hb _ (rd_mem hi)
    by_cases hc : acc > 20
    · rw [if_pos hc]
      exact (Ev.const acc).step (fun k => by rw [lang_tests.l0, if_pos (by omega), if_pos (by omega), if_pos (by omega), if_pos hc])
    · rw [if_neg hc]
      refine ((hf _ (rd_mem hi)).bind (q := fun k t => lang_tests.l0 k (wrap64 (acc + t)) xs (xs.length : Int) (wrap64 ((i : Int) + 1))) ?_).step (fun k => by rw [lang_tests.l0, if_pos (by omega), if_pos (by omega), if_pos (by omega), if_neg hc])
      have ih := tests_loop f xs B hB hlen hf hb m (i + 1) (acc + f (rd_T47 xs (i : Int))) (by omega) (by omega) (by omega)
      rw [wr_id (by omega) (by omega), wr_id (by omega) (by omega)]
      exact ih
theorem tests_ev : ∀ (n : Nat) (t : S47), n ≤ 2097152 → Fits n t → Ev (tF t) (pt n t) ∧ 1 ≤ pt n t ∧ pt n t ≤ 20 * n + 1
  | 0, _, _, h => h.elim
  | n + 1, t, hn, h => by
    have hk := fun k hk => tests_ev n k (by omega) (h.2 k hk)
    have hb : ∀ k ∈ t.f4, 1 ≤ pt n k ∧ pt n k ≤ 20 * n + 1 := fun k hk' => (hk k hk').2
    have := tests_loop (pt n) t.f4 (20 * n + 1) (by omega) h.1 (fun k hk' => (hk k hk').1) hb t.f4.length 0 1 (by omega) (by omega) (by omega)
    have hbd := lt_bound t.f4 1 hb (by omega) (by omega)
    rw [pt]
    refine ⟨this.step (fun k => by show lang_tests.f (k + 1) _ _ _ _ _ = _; rw [lang_tests.f]; rfl), hbd.1, by omega⟩
/-! ### levels -/
def ml (f : S47 → Int) : Int → List S47 → Int
  | acc, [] => acc
  | acc, k :: l => ml f (mx acc (f k)) l
def pl : Nat → S47 → Int
  | 0, _ => 1
  | n + 1, t => ml (pl n) 0 t.f4 + 1
abbrev lF (t : S47) (k : Nat) := lang_levels.f k t.f0 t.f1 t.f2 t.f3 t.f4
theorem mx_le (a b c : Int) : mx a b ≤ c ↔ a ≤ c ∧ b ≤ c := by unfold mx; split <;> omega
theorem le_mx (a b : Int) : a ≤ mx a b ∧ b ≤ mx a b := by unfold mx; split <;> omega
theorem ml_bound {f : S47 → Int} {B : Int} : ∀ (l : List S47) (acc : Int), (∀ t ∈ l, f t ≤ B) → acc ≤ B → acc ≤ ml f acc l ∧ ml f acc l ≤ B ∧ ∀ t ∈ l, f t ≤ ml f acc l
  | [], acc, h, h2 => ⟨Int.le_refl _, h2, fun t ht => by cases ht⟩
  | k :: l, acc, h, h2 => by
    rw [ml]
    have hk := h k (by simp)
    obtain ⟨a, b, c⟩ := ml_bound l (mx acc (f k)) (fun t ht => h t (by simp [ht])) ((mx_le _ _ _).2 ⟨h2, hk⟩)
    have hm := le_mx acc (f k)
    refine ⟨by omega, b, fun t ht => ?_⟩
    rcases List.mem_cons.1 ht with rfl | ht
    · omega
    · exact c t ht
theorem levels_loop (f : S47 → Int) (xs : List S47) (B : Int) (hB : B ≤ 1000000000) (hlen : xs.length ≤ 2097152) (hf : ∀ t ∈ xs, Ev (lF t) (f t)) (hb : ∀ t ∈ xs, f t ≤ B) : ∀ (m i : Nat) (acc : Int), i + m = xs.length → 0 ≤ acc → acc ≤ B → Ev (fun k => lang_levels.l0 k acc xs (xs.length : Int) (i : Int)) (ml f acc (xs.drop i) + 1)
  | 0, i, acc, hm, h1, h2 => by
    rw [List.drop_eq_nil_of_le (by omega), ml]
    exact (Ev.const (acc + 1)).step (fun k => by rw [lang_levels.l0, if_neg (by omega), wr_id (by omega) (by omega)])
  | m + 1, i, acc, hm, h1, h2 => by
    have hi : i < xs.length := by omega
    rw [drop_rd hi, ml]
    have hk := hb _ (rd_mem hi)
    have hm1 := le_mx acc (f (rd_T47 xs (i : Int)))
    refine ((hf _ (rd_mem hi)).bind (q := fun k t => lang_levels.l0 k (mx acc t) xs (xs.length : Int) (wrap64 ((i : Int) + 1))) ?_).step (fun k => by rw [lang_levels.l0, if_pos (by omega), if_pos (by omega), if_pos (by omega)])
    have ih := levels_loop f xs B hB hlen hf hb m (i + 1) (mx acc (f (rd_T47 xs (i : Int)))) (by omega) (by omega) ((mx_le _ _ _).2 ⟨h2, hk⟩)
    rw [wr_id (by omega) (by omega)]
    exact ih
theorem levels_ev : ∀ (n : Nat) (t : S47), n ≤ 2097152 → Fits n t → Ev (lF t) (pl n t) ∧ 1 ≤ pl n t ∧ pl n t ≤ n
  | 0, _, _, h => h.elim
  | n + 1, t, hn, h => by
    have hk := fun k hk => levels_ev n k (by omega) (h.2 k hk)
    have hb : ∀ k ∈ t.f4, pl n k ≤ n := fun k hk' => (hk k hk').2.2
    have := levels_loop (pl n) t.f4 n (by omega) h.1 (fun k hk' => (hk k hk').1) hb t.f4.length 0 0 (by omega) (by omega) (by omega)
    have hbd := ml_bound t.f4 0 hb (by omega)
    rw [pl]
    refine ⟨this.step (fun k => by show lang_levels.f (k + 1) _ _ _ _ _ = _; rw [lang_levels.f]; rfl), by omega, by omega⟩
/-! ### testForm -/
def FormP : Nat → S47 → Prop
  | 0, _ => False
  | n + 1, t => (∀ k ∈ t.f4, FormP n k) ∧ ((t.f0 = 1 ∧ t.f4 = []) ∨ ((t.f0 = 2 ∨ t.f0 = 3) ∧ 2 ≤ t.f4.length ∧ t.f1 = 0 ∧ t.f2 = 0 ∧ t.f3 = 0 ∧ ∀ k ∈ t.f4, k.f0 ≠ t.f0) ∨ (t.f0 = 4 ∧ 1 ≤ t.f4.length ∧ t.f1 = 0 ∧ t.f2 = 0 ∧ t.f3 = 0))
abbrev fF (t : S47) (k : Nat) := lang_testForm.f k t.f0 t.f1 t.f2 t.f3 t.f4
theorem form_loop (n : Nat) (xs : List S47) (a b c d : Int) (hlen : xs.length ≤ 2097152) (hf : ∀ t ∈ xs, ∃ r, Ev (fF t) r ∧ (r = true → FormP n t)) : ∀ (m i : Nat), i + m = xs.length → ∃ r, Ev (fun k => lang_testForm.l0 k xs (xs.length : Int) (i : Int) a b c d xs) r ∧ (r = true → (b = 0 ∧ c = 0 ∧ d = 0) ∧ ∀ t ∈ xs.drop i, FormP n t ∧ (a = 4 ∨ t.f0 ≠ a))
  | 0, i, hm => by
    rw [List.drop_eq_nil_of_le (by omega)]
    by_cases h1 : b = 0
    · by_cases h2 : c = 0
      · exact ⟨d == 0, (Ev.const _).step (fun k => by rw [lang_testForm.l0, if_neg (by omega), if_pos h1, if_pos h2]), fun h => ⟨⟨h1, h2, by simpa using h⟩, fun t ht => by cases ht⟩⟩
      · exact ⟨false, (Ev.const _).step (fun k => by rw [lang_testForm.l0, if_neg (by omega), if_pos h1, if_neg h2]), fun h => by cases h⟩
    · exact ⟨false, (Ev.const _).step (fun k => by rw [lang_testForm.l0, if_neg (by omega), if_neg h1]), fun h => by cases h⟩
  | m + 1, i, hm => by
    have hi : i < xs.length := by omega
    rw [drop_rd hi]
    obtain ⟨r0, hr0, hp0⟩ := hf _ (rd_mem hi)
    obtain ⟨r1, hr1, hp1⟩ := form_loop n xs a b c d hlen hf m (i + 1) (by omega)
    have hnext : Ev (fun k => lang_testForm.l0 k xs (xs.length : Int) (wrap64 ((i : Int) + 1)) a b c d xs) r1 := by rw [wr_id (by omega) (by omega)]; exact hr1
    have hbind : Ev (fun k => (fF (rd_T47 xs (i : Int)) k).bind fun t => if t = true then lang_testForm.l0 k xs (xs.length : Int) (wrap64 ((i : Int) + 1)) a b c d xs else some false) (r0 && r1) := by
      refine hr0.bind (q := fun k t => if t = true then lang_testForm.l0 k xs (xs.length : Int) (wrap64 ((i : Int) + 1)) a b c d xs else some false) ?_
      cases r0 with
      | true => simpa using hnext
      | false => simpa using Ev.const false
    by_cases h4 : a = 4
    · refine ⟨r0 && r1, hbind.step (fun k => by rw [lang_testForm.l0, if_pos (by omega), if_pos (by omega), if_pos (by omega), if_pos h4]), fun h => ?_⟩
      rw [Bool.and_eq_true] at h
      obtain ⟨hz, hall⟩ := hp1 h.2
      refine ⟨hz, fun t ht => ?_⟩
      rcases List.mem_cons.1 ht with rfl | ht
      · exact ⟨hp0 h.1, .inl h4⟩
      · exact hall t ht
    · by_cases he : (rd_T47 xs (i : Int)).f0 = a
      · exact ⟨false, (Ev.const _).step (fun k => by rw [lang_testForm.l0, if_pos (by omega), if_pos (by omega), if_pos (by omega), if_neg h4, if_pos he]), fun h => by cases h⟩
      · refine ⟨r0 && r1, hbind.step (fun k => by rw [lang_testForm.l0, if_pos (by omega), if_pos (by omega), if_pos (by omega), if_neg h4, if_neg he]), fun h => ?_⟩
        rw [Bool.and_eq_true] at h
        obtain ⟨hz, hall⟩ := hp1 h.2
        refine ⟨hz, fun t ht => ?_⟩
        rcases List.mem_cons.1 ht with rfl | ht
        · exact ⟨hp0 h.1, .inr he⟩
        · exact hall t ht
theorem form_ev : ∀ (n : Nat) (t : S47), Fits n t → ∃ r, Ev (fF t) r ∧ (r = true → FormP n t)
  | 0, _, h => h.elim
  | n + 1, t, h => by
    have hk := fun k hk => form_ev n k (h.2 k hk)
    obtain ⟨r, hr, hp⟩ := form_loop n t.f4 t.f0 t.f1 t.f2 t.f3 h.1 hk t.f4.length 0 (by omega)
    rw [List.drop_zero] at hp
    have hj1 : Ev (fun k => lang_testForm.j1 k t.f0 t.f1 t.f2 t.f3 t.f4) r := Ev.step hr (fun k => by rw [lang_testForm.j1]; rfl)
    by_cases c1 : t.f0 = 1
    · exact ⟨(t.f4.length : Int) == 0, (Ev.const _).step (fun k => by show lang_testForm.f (k + 1) _ _ _ _ _ = _; rw [lang_testForm.f, if_pos c1]), fun h_ => by
        have h0 : t.f4 = [] := by
          have := beq_iff_eq.1 h_
          exact List.eq_nil_of_length_eq_zero (by omega)
        exact ⟨fun k hk => (by rw [h0] at hk; cases hk), .inl ⟨c1, h0⟩⟩⟩
    · by_cases c23 : t.f0 = 2 ∨ t.f0 = 3
      · have hjj : ∀ k, lang_testForm.f (k + 1) t.f0 t.f1 t.f2 t.f3 t.f4 = lang_testForm.j0 k (t.f4.length : Int) t.f0 true t.f0 t.f1 t.f2 t.f3 t.f4 := fun k => by
          rw [lang_testForm.f, if_neg c1]
          rcases c23 with c | c
          · rw [if_pos c, c]; rfl
          · rw [if_neg (by omega), c]; rfl
        by_cases c2 : (t.f4.length : Int) < 2
        · exact ⟨false, ((Ev.const false).step (f := fun k => lang_testForm.j0 k (t.f4.length : Int) t.f0 true t.f0 t.f1 t.f2 t.f3 t.f4) (fun k => by rw [lang_testForm.j0, if_pos rfl, if_pos c2])).step hjj, fun h_ => by cases h_⟩
        · refine ⟨r, (hj1.step (f := fun k => lang_testForm.j0 k (t.f4.length : Int) t.f0 true t.f0 t.f1 t.f2 t.f3 t.f4) (fun k => by rw [lang_testForm.j0, if_pos rfl, if_neg c2])).step hjj, fun h_ => ?_⟩
          obtain ⟨⟨z1, z2, z3⟩, hall⟩ := hp h_
          exact ⟨fun k hk => (hall k hk).1, .inr (.inl ⟨c23, by omega, z1, z2, z3, fun k hk => (hall k hk).2.elim (fun h4 => by omega) (fun h_ => h_)⟩)⟩
      · have hjj : ∀ k, lang_testForm.f (k + 1) t.f0 t.f1 t.f2 t.f3 t.f4 = lang_testForm.j0 k (t.f4.length : Int) t.f0 false t.f0 t.f1 t.f2 t.f3 t.f4 := fun k => by
          rw [lang_testForm.f, if_neg c1, if_neg (by omega), beq_eq_false_iff_ne.2 (by omega)]
        by_cases c4 : t.f0 = 4
        · by_cases c2 : (t.f4.length : Int) < 1
          · exact ⟨false, ((Ev.const false).step (f := fun k => lang_testForm.j0 k (t.f4.length : Int) t.f0 false t.f0 t.f1 t.f2 t.f3 t.f4) (fun k => by rw [lang_testForm.j0, if_neg (by decide), if_pos c4, if_pos c2])).step hjj, fun h_ => by cases h_⟩
          · refine ⟨r, (hj1.step (f := fun k => lang_testForm.j0 k (t.f4.length : Int) t.f0 false t.f0 t.f1 t.f2 t.f3 t.f4) (fun k => by rw [lang_testForm.j0, if_neg (by decide), if_pos c4, if_neg c2])).step hjj, fun h_ => ?_⟩
            obtain ⟨⟨z1, z2, z3⟩, hall⟩ := hp h_
            exact ⟨fun k hk => (hall k hk).1, .inr (.inr ⟨c4, by omega, z1, z2, z3⟩)⟩
        · exact ⟨false, ((Ev.const false).step (f := fun k => lang_testForm.j0 k (t.f4.length : Int) t.f0 false t.f0 t.f1 t.f2 t.f3 t.f4) (fun k => by rw [lang_testForm.j0, if_neg (by decide), if_neg c4])).step hjj, fun h_ => by cases h_⟩
/-! ### testRange -/
def RangeP : Nat → S47 → Prop
  | 0, _ => False
  | n + 1, t => (∀ k ∈ t.f4, RangeP n k) ∧ (t.f0 = 1 → (t.f1 = 0 ∨ 2 ≤ t.f1 ∧ t.f1 ≤ 1000000) ∧ 0 ≤ t.f2 ∧ t.f2 ≤ t.f3 ∧ t.f3 ≤ 1000000000)
abbrev rF (t : S47) (k : Nat) := lang_testRange.f k t.f0 t.f1 t.f2 t.f3 t.f4
def rEnd (a b c d : Int) : Bool := if a = 1 then (if b = 0 then (if c ≥ 0 then (if c ≤ d then decide (d ≤ 1000000000) else false) else false) else (if b ≥ 2 then (if b ≤ 1000000 then (if c ≥ 0 then (if c ≤ d then decide (d ≤ 1000000000) else false) else false) else false) else false)) else true
theorem range_loop (n : Nat) (xs : List S47) (a b c d : Int) (hlen : xs.length ≤ 2097152) (hf : ∀ t ∈ xs, ∃ r, Ev (rF t) r ∧ (r = true → RangeP n t)) : ∀ (m i : Nat), i + m = xs.length → ∃ r, Ev (fun k => lang_testRange.l0 k xs (xs.length : Int) (i : Int) a b c d xs) r ∧ (r = true → rEnd a b c d = true ∧ ∀ t ∈ xs.drop i, RangeP n t)
  | 0, i, hm => by
    rw [List.drop_eq_nil_of_le (by omega)]
    refine ⟨rEnd a b c d, (Ev.const _).step (fun k => ?_), fun h => ⟨h, fun t ht => by cases ht⟩⟩
    rw [lang_testRange.l0, if_neg (by omega)]
    unfold rEnd
    split
    · split
      · split
        · split <;> rfl
        · rfl
      · split
        · split
          · split
            · split <;> rfl
            · rfl
          · rfl
        · rfl
    · rfl
  | m + 1, i, hm => by
    have hi : i < xs.length := by omega
    rw [drop_rd hi]
    obtain ⟨r0, hr0, hp0⟩ := hf _ (rd_mem hi)
    obtain ⟨r1, hr1, hp1⟩ := range_loop n xs a b c d hlen hf m (i + 1) (by omega)
    have hnext : Ev (fun k => lang_testRange.l0 k xs (xs.length : Int) (wrap64 ((i : Int) + 1)) a b c d xs) r1 := by rw [wr_id (by omega) (by omega)]; exact hr1
    have hbind : Ev (fun k => (rF (rd_T47 xs (i : Int)) k).bind fun t => if t = true then lang_testRange.l0 k xs (xs.length : Int) (wrap64 ((i : Int) + 1)) a b c d xs else some false) (r0 && r1) := by
      refine hr0.bind (q := fun k t => if t = true then lang_testRange.l0 k xs (xs.length : Int) (wrap64 ((i : Int) + 1)) a b c d xs else some false) ?_
      cases r0 with
      | true => simpa using hnext
      | false => simpa using Ev.const false
    refine ⟨r0 && r1, hbind.step (fun k => by rw [lang_testRange.l0, if_pos (by omega), if_pos (by omega), if_pos (by omega)]), fun h => ?_⟩
    rw [Bool.and_eq_true] at h
    obtain ⟨hz, hall⟩ := hp1 h.2
    refine ⟨hz, fun t ht => ?_⟩
    rcases List.mem_cons.1 ht with rfl | ht
    · exact hp0 h.1
    · exact hall t ht
theorem range_ev : ∀ (n : Nat) (t : S47), Fits n t → ∃ r, Ev (rF t) r ∧ (r = true → RangeP n t)
  | 0, _, h => h.elim
  | n + 1, t, h => by
    obtain ⟨r, hr, hp⟩ := range_loop n t.f4 t.f0 t.f1 t.f2 t.f3 h.1 (fun k hk => range_ev n k (h.2 k hk)) t.f4.length 0 (by omega)
    rw [List.drop_zero] at hp
    refine ⟨r, hr.step (fun k => by show lang_testRange.f (k + 1) _ _ _ _ _ = _; rw [lang_testRange.f]; rfl), fun h_ => ?_⟩
    obtain ⟨he, hall⟩ := hp h_
    refine ⟨hall, fun h1 => ?_⟩
    unfold rEnd at he
    rw [if_pos h1] at he
    split at he
    · rename_i hb
      split at he
      · split at he
        · exact ⟨.inl hb, by omega, by assumption, of_decide_eq_true he⟩
        · cases he
      · cases he
    · split at he
      · split at he
        · split at he
          · split at he
            · exact ⟨.inr ⟨by omega, by assumption⟩, by omega, by assumption, of_decide_eq_true he⟩
            · cases he
          · cases he
        · cases he
      · cases he
/-! ### A test without a fault is right -/
theorem ok_of : ∀ (d n : Nat) (t : S47), n ≤ 2097152 → Fits n t → pl n t ≤ d → pt n t ≤ 20 → FormP n t → RangeP n t → OkT d t ∧ (cn d t : Int) = pt n t
  | d, 0, t, _, h, _, _, _, _ => h.elim
  | 0, n + 1, t, hn, h, hp, _, _, _ => by have := (levels_ev (n + 1) t hn h).2.1; omega
  | d + 1, n + 1, t, hn, h, hp, ht, hf, hr => by
    have hb : ∀ k ∈ t.f4, pl n k ≤ n := fun k hk => (levels_ev n k (by omega) (h.2 k hk)).2.2
    have hml := ml_bound t.f4 0 hb (by omega)
    have h1 : ∀ k ∈ t.f4, 1 ≤ pt n k := fun k hk => (tests_ev n k (by omega) (h.2 k hk)).2.1
    rw [pt] at ht ⊢
    obtain ⟨hsum, _, h20⟩ := lt_small t.f4 1 h1 (by omega) ht
    rw [pl] at hp
    have hkids : ∀ k ∈ t.f4, OkT d k ∧ (cn d k : Int) = pt n k := fun k hk => ok_of d n k (by omega) (h.2 k hk) (by have := hml.2.2 k hk; omega) (h20 k hk) (hf.1 k hk) (hr.1 k hk)
    have hcs : ((t.f4.map (cn d)).sum : Nat) = (t.f4.map (pt n)).sum := by
      clear hsum h20 hp ht hml hb h1
      generalize t.f4 = l at hkids
      induction l with
      | nil => rfl
      | cons k l ih =>
        have a := (hkids k (by simp)).2
        have b := ih (fun k hk => hkids k (by simp [hk]))
        simp only [List.map_cons, List.sum_cons]
        omega
    have hlen : (t.f4.length : Int) ≤ (t.f4.map (pt n)).sum := by
      clear hsum h20 hp ht hml hb hkids hcs
      generalize t.f4 = l at h1
      induction l with
      | nil => simp
      | cons k l ih =>
        have a := h1 k (by simp)
        have b := ih (fun k hk => h1 k (by simp [hk]))
        simp only [List.map_cons, List.sum_cons, List.length_cons]
        omega
    have hcn : (cn (d + 1) t : Int) = lt (pt n) 1 t.f4 := by rw [cn]; omega
    refine ⟨⟨fun k hk => (hkids k hk).1, ⟨by omega, by omega⟩, ?_⟩, hcn⟩
    rcases hf.2 with ⟨a, b⟩ | hh | hh
    · exact .inl ⟨a, b, hr.2 a⟩
    · exact .inr (.inl hh)
    · exact .inr (.inr hh)
end Go.Proofs.YtilmjckpphlniaaDoor.Pure
