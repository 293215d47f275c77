/- For RuleRound: a rule is refused, or is right; the form of a number is one of its forms or the one behind. -/
import Derived.Test.YtilmjckpphlniaaDoorPureRuleRoundA
namespace Go.Proofs.YtilmjckpphlniaaDoor.Pure
open Go.RowKit Go.Proofs.YtilmjckpphlniaaDoor.PRuleRound Go.Proofs.YtilmjckpphlniaaDoorW.PrintWords Go.Proofs.YtilmjckpphlniaaDoorW.PrintLast Go.Proofs.YtilmjckpphlniaaDoorW.PrintMore
set_option linter.unusedVariables false
set_option linter.unusedSimpArgs false
/-! ### ruleFault -/
theorem l3_ev (n : Nat) (xs : List S47) (hlen : xs.length ≤ 2097152) (hf : ∀ t ∈ xs, Fits n t) : ∀ (m i : Nat), i + m = xs.length → ∃ e, Ev (fun k => lang_ruleFault.l3 k xs (xs.length : Int) (i : Int)) e ∧ (e = 0 → ∀ t ∈ xs.drop i, RangeP n t)
  | 0, i, hm => ⟨0, (Ev.const 0).step (fun k => by rw [lang_ruleFault.l3, if_neg (by omega)]), fun _ t ht => by rw [List.drop_eq_nil_of_le (by omega)] at ht; cases ht⟩
  | m + 1, i, hm => by
    have hi : i < xs.length := by omega
    obtain ⟨r0, hr0, hp0⟩ := range_ev n _ (hf _ (rd_mem hi))
    obtain ⟨e1, hr1, hp1⟩ := l3_ev n xs hlen hf m (i + 1) (by omega)
    have hb := hr0.bind (q := fun k t => if t = true then lang_ruleFault.l3 k xs (xs.length : Int) (wrap64 ((i : Int) + 1)) else some 2) (r := if r0 = true then e1 else 2) (by
      cases r0 with
      | true => simp only [if_pos]; rw [wr_id (by omega) (by omega)]; exact hr1
      | false => exact Ev.const 2)
    refine ⟨_, hb.step (fun k => by rw [lang_ruleFault.l3, if_pos (by omega), if_pos (by omega), if_pos (by omega)]), fun h => ?_⟩
    cases r0 with
    | false => cases h
    | true =>
      rw [drop_rd hi]
      intro t ht
      rcases List.mem_cons.1 ht with rfl | ht
      · exact hp0 rfl
      · exact hp1 h t ht
theorem l2_ev (n : Nat) (xs : List S47) (hlen : xs.length ≤ 2097152) (hf : ∀ t ∈ xs, Fits n t) : ∀ (m i : Nat), i + m = xs.length → ∃ e, Ev (fun k => lang_ruleFault.l2 k xs (xs.length : Int) (i : Int) xs) e ∧ (e = 0 → (∀ t ∈ xs.drop i, FormP n t) ∧ ∀ t ∈ xs, RangeP n t)
  | 0, i, hm => by
    obtain ⟨e, he, hp⟩ := l3_ev n xs hlen hf xs.length 0 (by omega)
    exact ⟨e, he.step (fun k => by rw [lang_ruleFault.l2, if_neg (by omega)]; rfl), fun h => ⟨fun t ht => (by rw [List.drop_eq_nil_of_le (by omega)] at ht; cases ht), by simpa using hp h⟩⟩
  | m + 1, i, hm => by
    have hi : i < xs.length := by omega
    obtain ⟨r0, hr0, hp0⟩ := form_ev n _ (hf _ (rd_mem hi))
    obtain ⟨e1, hr1, hp1⟩ := l2_ev n xs hlen hf m (i + 1) (by omega)
    have hb := hr0.bind (q := fun k t => if t = true then lang_ruleFault.l2 k xs (xs.length : Int) (wrap64 ((i : Int) + 1)) xs else some 1) (r := if r0 = true then e1 else 1) (by
      cases r0 with
      | true => simp only [if_pos]; rw [wr_id (by omega) (by omega)]; exact hr1
      | false => exact Ev.const 1)
    refine ⟨_, hb.step (fun k => by rw [lang_ruleFault.l2, if_pos (by omega), if_pos (by omega), if_pos (by omega)]), fun h => ?_⟩
    cases r0 with
    | false => cases h
    | true =>
      obtain ⟨a, b⟩ := hp1 h
      refine ⟨?_, b⟩
      rw [drop_rd hi]
      intro t ht
      rcases List.mem_cons.1 ht with rfl | ht
      · exact hp0 rfl
      · exact a t ht
theorem l1_ev (n : Nat) (hn : n ≤ 2097152) (xs : List S47) (hlen : xs.length ≤ 2097152) (hf : ∀ t ∈ xs, Fits n t) : ∀ (m i : Nat), i + m = xs.length → ∃ e, Ev (fun k => lang_ruleFault.l1 k xs (xs.length : Int) (i : Int) xs) e ∧ (e = 0 → (∀ t ∈ xs.drop i, pl n t ≤ 12) ∧ (∀ t ∈ xs, FormP n t) ∧ ∀ t ∈ xs, RangeP n t)
  | 0, i, hm => by
    obtain ⟨e, he, hp⟩ := l2_ev n xs hlen hf xs.length 0 (by omega)
    exact ⟨e, he.step (fun k => by rw [lang_ruleFault.l1, if_neg (by omega)]; rfl), fun h => ⟨fun t ht => (by rw [List.drop_eq_nil_of_le (by omega)] at ht; cases ht), by simpa using hp h⟩⟩
  | m + 1, i, hm => by
    have hi : i < xs.length := by omega
    obtain ⟨hr0, _, _⟩ := levels_ev n _ hn (hf _ (rd_mem hi))
    obtain ⟨e1, hr1, hp1⟩ := l1_ev n hn xs hlen hf m (i + 1) (by omega)
    have hb := hr0.bind (q := fun k t => if t > 12 then some 13 else lang_ruleFault.l1 k xs (xs.length : Int) (wrap64 ((i : Int) + 1)) xs) (r := if pl n (rd_T47 xs (i : Int)) > 12 then 13 else e1) (by
      split
      · exact Ev.const 13
      · rw [wr_id (by omega) (by omega)]; exact hr1)
    refine ⟨_, hb.step (fun k => by rw [lang_ruleFault.l1, if_pos (by omega), if_pos (by omega), if_pos (by omega)]), fun h => ?_⟩
    split at h
    · cases h
    · obtain ⟨a, b⟩ := hp1 h
      refine ⟨?_, b⟩
      rw [drop_rd hi]
      intro t ht
      rcases List.mem_cons.1 ht with rfl | ht
      · omega
      · exact a t ht
theorem l0_ev (n : Nat) (hn : n ≤ 2097152) (xs : List S47) (hlen : xs.length ≤ 2097152) (hf : ∀ t ∈ xs, Fits n t) : ∀ (m i : Nat), i + m = xs.length → ∃ e, Ev (fun k => lang_ruleFault.l0 k xs (xs.length : Int) (i : Int) xs) e ∧ (e = 0 → (∀ t ∈ xs.drop i, pt n t ≤ 20) ∧ (∀ t ∈ xs, pl n t ≤ 12) ∧ (∀ t ∈ xs, FormP n t) ∧ ∀ t ∈ xs, RangeP n t)
  | 0, i, hm => by
    obtain ⟨e, he, hp⟩ := l1_ev n hn xs hlen hf xs.length 0 (by omega)
    exact ⟨e, he.step (fun k => by rw [lang_ruleFault.l0, if_neg (by omega)]; rfl), fun h => ⟨fun t ht => (by rw [List.drop_eq_nil_of_le (by omega)] at ht; cases ht), by simpa using hp h⟩⟩
  | m + 1, i, hm => by
    have hi : i < xs.length := by omega
    obtain ⟨hr0, _, _⟩ := tests_ev n _ hn (hf _ (rd_mem hi))
    obtain ⟨e1, hr1, hp1⟩ := l0_ev n hn xs hlen hf m (i + 1) (by omega)
    have hb := hr0.bind (q := fun k t => if t > 20 then some 4 else lang_ruleFault.l0 k xs (xs.length : Int) (wrap64 ((i : Int) + 1)) xs) (r := if pt n (rd_T47 xs (i : Int)) > 20 then 4 else e1) (by
      split
      · exact Ev.const 4
      · rw [wr_id (by omega) (by omega)]; exact hr1)
    refine ⟨_, hb.step (fun k => by rw [lang_ruleFault.l0, if_pos (by omega), if_pos (by omega), if_pos (by omega)]), fun h => ?_⟩
    split at h
    · cases h
    · obtain ⟨a, b⟩ := hp1 h
      refine ⟨?_, b⟩
      rw [drop_rd hi]
      intro t ht
      rcases List.mem_cons.1 ht with rfl | ht
      · omega
      · exact a t ht
theorem fault_ev (n : Nat) (hn : n ≤ 2097152) (xs : List S47) (hlen : xs.length ≤ 2097152) (hf : ∀ t ∈ xs, Fits n t) : ∃ e, Ev (fun k => lang_ruleFault.f k xs) e ∧ (e = 0 → (∀ t ∈ xs, OkT 12 t) ∧ xs.length ≤ 6) := by
  by_cases h6 : (xs.length : Int) > 6
  · refine ⟨4, ?_, fun h => by cases h⟩
    refine ⟨0, fun k _ => ?_⟩
    show lang_ruleFault.f k xs = _
    unfold lang_ruleFault.f
    rw [if_pos h6]
  · obtain ⟨e, he, hp⟩ := l0_ev n hn xs hlen hf xs.length 0 (by omega)
    refine ⟨e, ?_, fun h => ?_⟩
    · obtain ⟨k0, he⟩ := he
      refine ⟨k0, fun k hk => ?_⟩
      show lang_ruleFault.f k xs = _
      unfold lang_ruleFault.f
      rw [if_neg h6]
      exact he k hk
    · obtain ⟨a, b, c, d⟩ := hp h
      rw [List.drop_zero] at a
      exact ⟨fun t ht => (ok_of 12 n t hn (hf t ht) (b t ht) (a t ht) (c t ht) (d t ht)).1, by omega⟩
/-! ### holds and form -/
abbrev hF (t : S47) (x : Int) (k : Nat) := lang_holds.f k t.f0 t.f1 t.f2 t.f3 t.f4 x
theorem holds_l0 (x : Int) (xs : List S47) (a b c d : Int) (hlen : xs.length ≤ 20) (hf : ∀ t ∈ xs, ∃ r, Ev (hF t x) r) : ∀ (m i : Nat), i + m = xs.length → ∃ r, Ev (fun k => lang_holds.l0 k x xs (xs.length : Int) (i : Int) a b c d xs) r
  | 0, i, hm => ⟨true, (Ev.const true).step (fun k => by rw [lang_holds.l0, if_neg (by omega)])⟩
  | m + 1, i, hm => by
    have hi : i < xs.length := by omega
    obtain ⟨r0, hr0⟩ := hf _ (rd_mem hi)
    obtain ⟨r1, hr1⟩ := holds_l0 x xs a b c d hlen hf m (i + 1) (by omega)
    refine ⟨if (r0 != (a == 2)) = true then false else r1, (hr0.bind (q := fun k t => if (t != (a == 2)) = true then some false else lang_holds.l0 k x xs (xs.length : Int) (wrap64 ((i : Int) + 1)) a b c d xs) ?_).step (fun k => by rw [lang_holds.l0, if_pos (by omega), if_pos (by omega), if_pos (by omega)])⟩
    split
    · exact Ev.const false
    · rw [wr_id (by omega) (by omega)]; exact hr1
theorem holds_l1 (x : Int) (xs : List S47) (hlen : xs.length ≤ 20) (hf : ∀ t ∈ xs, ∃ r, Ev (hF t x) r) : ∀ (m i : Nat), i + m = xs.length → ∃ r, Ev (fun k => lang_holds.l1 k x xs (xs.length : Int) (i : Int)) r
  | 0, i, hm => ⟨false, (Ev.const false).step (fun k => by rw [lang_holds.l1, if_neg (by omega)])⟩
  | m + 1, i, hm => by
    have hi : i < xs.length := by omega
    obtain ⟨r0, hr0⟩ := hf _ (rd_mem hi)
    obtain ⟨r1, hr1⟩ := holds_l1 x xs hlen hf m (i + 1) (by omega)
    refine ⟨if r0 = true then true else r1, (hr0.bind (q := fun k t => if t = true then some true else lang_holds.l1 k x xs (xs.length : Int) (wrap64 ((i : Int) + 1))) ?_).step (fun k => by rw [lang_holds.l1, if_pos (by omega), if_pos (by omega), if_pos (by omega)])⟩
    split
    · exact Ev.const true
    · rw [wr_id (by omega) (by omega)]; exact hr1
theorem u64_small {m : Int} (h0 : 0 ≤ m) (h1 : m ≤ 1000000000) : IntKind.u64.wrap m = m := by unfold IntKind.wrap; simp [IntKind.bits, IntKind.signed]; omega
theorem holds_ev (x : Int) : ∀ (n : Nat) (t : S47), OkT n t → ∃ r, Ev (hF t x) r
  | 0, _, h => h.elim
  | n + 1, t, h => by
    obtain ⟨hk, ⟨hl, _⟩, hop⟩ := h
    have hkids : ∀ k ∈ t.f4, ∃ r, Ev (hF k x) r := fun k hk' => holds_ev x n k (hk k hk')
    obtain ⟨r0, h0⟩ := holds_l0 x t.f4 t.f0 t.f1 t.f2 t.f3 hl hkids t.f4.length 0 (by omega)
    obtain ⟨r1, h1⟩ := holds_l1 x t.f4 hl hkids t.f4.length 0 (by omega)
    have hb : ∀ b : Bool, (b = false → ¬ t.f0 = 2 ∧ ¬ t.f0 = 4) → ∃ r, Ev (fun k => lang_holds.j0 k x t.f0 b t.f0 t.f1 t.f2 t.f3 t.f4) r := by
      intro b hb
      cases b with
      | true => exact ⟨r0, h0.step (fun k => by rw [lang_holds.j0, if_pos rfl]; rfl)⟩
      | false =>
        by_cases c3 : t.f0 = 3
        · exact ⟨r1, h1.step (fun k => by rw [lang_holds.j0, if_neg (by decide), if_pos c3]; rfl)⟩
        · obtain ⟨hm, hlo, hlh, hhi⟩ : (t.f1 = 0 ∨ 2 ≤ t.f1 ∧ t.f1 ≤ 1000000) ∧ 0 ≤ t.f2 ∧ t.f2 ≤ t.f3 ∧ t.f3 ≤ 1000000000 := by
            have := hb rfl
            rcases hop with h | h | h
            · exact h.2.2
            · omega
            · omega
          by_cases c1 : t.f1 = 0
          · by_cases c4 : x ≥ IntKind.u64.wrap t.f2
            · exact ⟨_, (Ev.const _).step (fun k => by rw [lang_holds.j0, if_neg (by decide), if_neg c3, if_pos c1, if_pos c4])⟩
            · exact ⟨_, (Ev.const _).step (fun k => by rw [lang_holds.j0, if_neg (by decide), if_neg c3, if_pos c1, if_neg c4])⟩
          · have c5 : ¬ IntKind.u64.wrap t.f1 = 0 := by rw [u64_small (by omega) (by omega)]; exact c1
            by_cases c4 : Int.tmod x (IntKind.u64.wrap t.f1) ≥ IntKind.u64.wrap t.f2
            · exact ⟨_, (Ev.const _).step (fun k => by rw [lang_holds.j0, if_neg (by decide), if_neg c3, if_neg c1, if_neg c5, if_pos c4])⟩
            · exact ⟨_, (Ev.const _).step (fun k => by rw [lang_holds.j0, if_neg (by decide), if_neg c3, if_neg c1, if_neg c5, if_neg c4])⟩
    by_cases c2 : t.f0 = 2
    · obtain ⟨r, hr⟩ := hb (t.f0 == 2) (fun h => absurd c2 (by simpa using h))
      exact ⟨r, hr.step (fun k => by show lang_holds.f (k + 1) _ _ _ _ _ _ = _; rw [lang_holds.f, if_pos c2])⟩
    · obtain ⟨r, hr⟩ := hb (t.f0 == 4) (fun h => ⟨c2, by simpa using h⟩)
      exact ⟨r, hr.step (fun k => by show lang_holds.f (k + 1) _ _ _ _ _ _ = _; rw [lang_holds.f, if_neg c2])⟩
theorem magnitude_f (x : Int) : ∃ y, lang_magnitude.f x = some y := by
  unfold lang_magnitude.f
  split <;> exact ⟨_, rfl⟩
theorem form_l (x : Int) (xs : List S47) (hlen : xs.length ≤ 6) (hf : ∀ t ∈ xs, OkT 12 t) : ∀ (m i : Nat), i + m = xs.length → ∃ a, Ev (fun k => lang_form.l0 k x xs (xs.length : Int) (i : Int) xs) a ∧ 0 ≤ a ∧ a ≤ (xs.length : Int)
  | 0, i, hm => ⟨_, (Ev.const _).step (fun k => by rw [lang_form.l0, if_neg (by omega)]), by omega, by omega⟩
  | m + 1, i, hm => by
    have hi : i < xs.length := by omega
    obtain ⟨y, hy⟩ := magnitude_f x
    obtain ⟨r0, hr0⟩ := holds_ev y 12 _ (hf _ (rd_mem hi))
    obtain ⟨a1, hr1, ha, hb⟩ := form_l x xs hlen hf m (i + 1) (by omega)
    refine ⟨if r0 = true then (i : Int) else a1, (hr0.bind (q := fun k t => if t = true then some (i : Int) else lang_form.l0 k x xs (xs.length : Int) (wrap64 ((i : Int) + 1)) xs) ?_).step (fun k => by rw [lang_form.l0, if_pos (by omega), if_pos (by omega), if_pos (by omega), hy]; rfl), ?_⟩
    · split
      · exact Ev.const _
      · rw [wr_id (by omega) (by omega)]; exact hr1
    · split <;> omega
/-! ### A right test is written by some byte -/
theorem tx_pos : ∀ (n : Nat) (t : S47), OkT n t → 0 < (tx n t).length
  | 0, _, h => h.elim
  | n + 1, t, h => by
    obtain ⟨hk, _, hop⟩ := h
    have hj : ∀ sep : List UInt8, 0 < sep.length → 2 ≤ t.f4.length → 0 < (Lib.join (t.f4.map (kb (tx n))) sep).length := fun sep hs h2 => by
      generalize t.f4 = l at h2
      match l, h2 with
      | x :: y :: l, _ =>
        rw [join_tls]
        rw [tls]
        simp only [List.length_append]
        omega
    rw [tx]
    rcases hop with h | ⟨h | h, h2, _⟩ | h
    · rw [if_neg (by omega), if_neg (by omega), if_neg (by omega)]
      obtain ⟨r, e⟩ := wt_head t
      rw [e]; simp
    · rw [if_pos h]; exact hj _ (by decide) h2
    · rw [if_neg (by omega), if_pos h]; exact hj _ (by decide) h2
    · rw [if_neg (by omega), if_neg (by omega), if_pos h.1]; simp
theorem rtext_pos {l : List S47} (h : ∀ t ∈ l, OkT 12 t) (hne : l ≠ []) : 0 < (rtext l).length := by
  obtain ⟨x, l', rfl⟩ := List.exists_cons_of_ne_nil hne
  unfold rtext
  rw [join_tls, List.length_append]
  have := tx_pos 12 x (h x (by simp))
  omega
/-- Each rule is refused, or is right, and its form of a number is told. -/
theorem RuleRound {n : Nat} (hn : n ≤ 2097152) (l : List S47) (hl : l.length ≤ 2097152) (h : ∀ t ∈ l, Fits n t) (x : Int) : ∃ k e, lang_ruleFault.f k l = some e ∧ (e = 0 → (∀ t ∈ l, OkT 12 t) ∧ l.length ≤ 6 ∧ (l ≠ [] → 0 < (rtext l).length) ∧ ∃ a, lang_Form.f k l x = some (a, 0) ∧ 0 ≤ a ∧ a ≤ (l.length : Int)) := by
  obtain ⟨e, ⟨k0, he⟩, hp⟩ := fault_ev n hn l hl h
  by_cases c : e = 0
  · obtain ⟨hok, h6⟩ := hp c
    obtain ⟨a, ⟨k1, ha⟩, h0, h1⟩ := form_l x l h6 hok l.length 0 (by omega)
    refine ⟨max k0 k1, e, he _ (by omega), fun _ => ⟨hok, h6, fun hne => rtext_pos hok hne, a, ?_, h0, h1⟩⟩
    have h2 : lang_ruleFault.f (max k0 k1) l = some e := he (max k0 k1) (by omega)
    have h3 : lang_form.l0 (max k0 k1) x l (l.length : Int) 0 l = some a := ha (max k0 k1) (by omega)
    unfold lang_Form.f lang_form.f
    rw [h2, Option.bind_some, if_pos c, h3]
    rfl
  · exact ⟨k0, e, he k0 (Nat.le_refl _), fun h_ => absurd h_ c⟩
end Go.Proofs.YtilmjckpphlniaaDoor.Pure
