/- TopServed, said of the plain functions: an address is among the events if and only if its body differs, is new or has gone; a request for an output's address gets its body; the events are in order; no condition. -/
import Derived.Test.YtbldjamcnohfjaaDoorPureTopServedC
import Derived.Test.YtbldjamcnohfjaaDoorSvL
namespace Go.Proofs.YtbldjamcnohfjaaDoor.Pure
open Go.RowKit Go.Proofs.YtbldjamcnohfjaaDoor.PTopServed Go.Proofs.YtbldjamcnohfjaaDoorW.PrintWords Go.Proofs.YtbldjamcnohfjaaDoorW.PrintLast Go.Proofs.YtbldjamcnohfjaaDoorW.PrintMore
set_option linter.unusedVariables false
set_option linter.unusedSimpArgs false
/-! ### The first output with a path -/
def at_ (l : List S30) (p : ByteArray) : Nat → Nat → ByteArray × Bool
  | 0, _ => (⟨#[]⟩, false)
  | d + 1, i => if (rd_T30 l (i : Int)).f0.toList = p.toList then ((rd_T30 l (i : Int)).f1, true) else at_ l p d (i + 1)
theorem at_ev (l : List S30) (p : ByteArray) (hl : l.length ≤ 480) : ∀ d i : Nat, i + d = l.length → Ev (fun k => mastkeep1_at.l0 k p l (l.length : Int) (i : Int)) (at_ l p d i)
  | 0, i, h => Ev.step (f := fun _ => some (⟨#[]⟩, false)) (fun k => by rw [mastkeep1_at.l0, if_neg (by omega)]) (Ev.now _)
  | d + 1, i, h => by
    rw [at_]
    by_cases c : (rd_T30 l (i : Int)).f0.toList = p.toList
    · rw [if_pos c]
      exact Ev.step (f := fun _ => some ((rd_T30 l (i : Int)).f1, true)) (fun k => by rw [mastkeep1_at.l0, if_pos (by omega), if_pos (by omega), if_pos (by omega), if_pos c]) (Ev.now _)
    · rw [if_neg c]
      refine Ev.step (fun k => ?_) (at_ev l p hl d (i + 1) (by omega))
      rw [mastkeep1_at.l0, if_pos (by omega), if_pos (by omega), if_pos (by omega), if_neg c, w1 (n := l.length) (by omega) (by omega)]
theorem at_true (l : List S30) (p : ByteArray) : ∀ d i : Nat, (at_ l p d i).2 = true → ∃ j : Nat, i ≤ j ∧ j < i + d ∧ (rd_T30 l (j : Int)).f0 = p ∧ (at_ l p d i).1 = (rd_T30 l (j : Int)).f1
  | 0, i, h => by cases h
  | d + 1, i, h => by
    rw [at_] at h ⊢
    split at h
    · rename_i c
      rw [if_pos c]
      rw [lst_tl, lst_tl] at c
      exact ⟨i, Nat.le_refl _, by omega, lst_inj c, rfl⟩
    · rename_i c
      rw [if_neg c]
      obtain ⟨j, h1, h2, h3⟩ := at_true l p d (i + 1) h
      exact ⟨j, by omega, by omega, h3⟩
theorem at_false (l : List S30) (p : ByteArray) : ∀ d i : Nat, (at_ l p d i).2 = false → ∀ j : Nat, i ≤ j → j < i + d → (rd_T30 l (j : Int)).f0 ≠ p
  | 0, i, h, j, h1, h2 => by omega
  | d + 1, i, h, j, h1, h2 => by
    rw [at_] at h
    split at h
    · cases h
    · rename_i c
      by_cases e : j = i
      · subst e
        intro e
        exact c (by rw [e])
      · exact at_false l p d (i + 1) h j (by omega) (by omega)
/-! ### The maps -/
theorem bd_some {l : List S30} {p b : ByteArray} : ∀ n : Nat, Mp.look (bd l n) p = some b → ∃ j : Nat, j < n ∧ (rd_T30 l (j : Int)).f0 = p ∧ b = (rd_T30 l (j : Int)).f1
  | 0, h => by cases h
  | n + 1, h => by
    rw [bd, Mp.look] at h
    split at h
    · rename_i e
      injection h with h
      exact ⟨n, Nat.lt_succ_self _, e, h.symm⟩
    · obtain ⟨j, h1, h2⟩ := bd_some n h
      exact ⟨j, by omega, h2⟩
theorem bd_none {l : List S30} {p : ByteArray} : ∀ n : Nat, Mp.look (bd l n) p = none → ∀ j : Nat, j < n → (rd_T30 l (j : Int)).f0 ≠ p
  | 0, h, j, hj => by omega
  | n + 1, h, j, hj => by
    rw [bd, Mp.look] at h
    split at h
    · cases h
    · rename_i e
      by_cases hjn : j = n
      · subst hjn; exact e
      · exact bd_none n h j (by omega)
theorem bd_at {l : List S30} (h : Site l) {p : ByteArray} {j : Nat} (hj : j < l.length) (e : (rd_T30 l (j : Int)).f0 = p) : Mp.look (bd l l.length) p = some (rd_T30 l (j : Int)).f1 := by
  cases hb : Mp.look (bd l l.length) p with
  | none => exact absurd e (bd_none _ hb j hj)
  | some b =>
    obtain ⟨i, hi, e2, rfl⟩ := bd_some _ hb
    have : i = j := nm_inj h hi hj (by unfold nm; rw [e, e2])
    rw [this]
/-! ### The events -/
theorem ev1_mem (aft : SM) (ad : Nat → ByteArray) (l : List S30) (a : ByteArray) : ∀ n : Nat, a ∈ ev1 aft ad l n ↔ ∃ j : Nat, j < n ∧ chg aft (rd_T30 l (j : Int)) = true ∧ ad j = a
  | 0 => ⟨(fun h => by cases h), (fun ⟨_, h, _⟩ => absurd h (Nat.not_lt_zero _))⟩
  | n + 1 => by
    have ih := ev1_mem aft ad l a n
    rw [ev1]
    constructor
    · intro h
      split at h
      · rename_i c
        rcases List.mem_append.1 h with h | h
        · obtain ⟨j, h1, h2⟩ := ih.1 h; exact ⟨j, by omega, h2⟩
        · exact ⟨n, Nat.lt_succ_self _, c, (List.mem_singleton.1 h).symm⟩
      · obtain ⟨j, h1, h2⟩ := ih.1 h; exact ⟨j, by omega, h2⟩
    · rintro ⟨j, h1, h2, rfl⟩
      by_cases e : j = n
      · subst e; rw [if_pos h2]; exact List.mem_append_right _ (List.mem_singleton.2 rfl)
      · have := ih.2 ⟨j, by omega, h2, rfl⟩
        split
        · exact List.mem_append_left _ this
        · exact this
theorem ev2_mem (bef : SM) (ad : Nat → ByteArray) (l : List S30) (out : List ByteArray) (a : ByteArray) : ∀ n : Nat, a ∈ ev2 bef ad l out n ↔ a ∈ out ∨ ∃ j : Nat, j < n ∧ ¬ (Mp.look bef (rd_T30 l (j : Int)).f0).isSome = true ∧ ad j = a
  | 0 => by
    constructor
    · intro h; exact .inl h
    · rintro (h | ⟨_, h, _⟩)
      · exact h
      · exact absurd h (Nat.not_lt_zero _)
  | n + 1 => by
    have ih := ev2_mem bef ad l out a n
    rw [ev2]
    constructor
    · intro h
      split at h
      · rcases ih.1 h with h | ⟨j, h1, h2⟩
        · exact .inl h
        · exact .inr ⟨j, by omega, h2⟩
      · rename_i c
        rcases List.mem_append.1 h with h | h
        · rcases ih.1 h with h | ⟨j, h1, h2⟩
          · exact .inl h
          · exact .inr ⟨j, by omega, h2⟩
        · exact .inr ⟨n, Nat.lt_succ_self _, c, (List.mem_singleton.1 h).symm⟩
    · rintro (h | ⟨j, h1, h2, rfl⟩)
      · have := ih.2 (.inl h)
        split
        · exact this
        · exact List.mem_append_left _ this
      · by_cases e : j = n
        · subst e; rw [if_neg h2]; exact List.mem_append_right _ (List.mem_singleton.2 rfl)
        · have := ih.2 (.inr ⟨j, by omega, h2, rfl⟩)
          split
          · exact this
          · exact List.mem_append_left _ this
theorem srt_mem (xs : List ByteArray) (a : ByteArray) : a ∈ srt xs ↔ a ∈ xs := by
  unfold srt
  rw [List.mem_map]
  constructor
  · rintro ⟨L, hL, rfl⟩
    rw [List.mem_mergeSort] at hL
    obtain ⟨x, hx, rfl⟩ := List.mem_map.1 hL
    exact hx
  · intro h
    exact ⟨bys a, List.mem_mergeSort.2 (List.mem_map.2 ⟨a, h, rfl⟩), rfl⟩
theorem srt_ord (xs : List ByteArray) (i : Nat) (h : i + 1 < (srt xs).length) : ¬ lst ((srt xs)[i + 1]) < lst ((srt xs)[i]'(by omega)) := by
  have hp := List.pairwise_mergeSort (le := fun x y : List UInt8 => decide (x ≤ y)) (fun a b c h1 h2 => by simp only [decide_eq_true_eq] at *; exact List.le_trans h1 h2) (fun a b => by simp only [Bool.or_eq_true, decide_eq_true_eq]; exact List.le_total a b) (xs.map bys)
  have hl : (srt xs).length = ((xs.map bys).mergeSort fun x y => decide (x ≤ y)).length := by unfold srt; rw [List.length_map]
  have := List.pairwise_iff_getElem.1 hp i (i + 1) (by omega) (by omega) (by omega)
  rw [decide_eq_true_eq] at this
  have e : ∀ (j : Nat) (hj : j < (srt xs).length), lst ((srt xs)[j]) = ((xs.map bys).mergeSort fun x y => decide (x ≤ y))[j]'(by omega) := fun j hj => by
    simp only [srt, List.getElem_map]
    rfl
  rw [e, e]
  exact this
/-! ### Contains, IsSorted -/
theorem idx_tt (S : List ByteArray) (a : ByteArray) (hl : S.length ≤ 1000000000000) : ∀ d i : Nat, i + d = S.length → Tt (fun k => slices_Index_string_string.l0 k S a (S.length : Int) (i : Int)) (fun r => 0 ≤ r ↔ ∃ (j : Nat) (h : j < S.length), i ≤ j ∧ S[j] = a)
  | 0, i, h => Tt.step (f := fun _ => some (-1)) (fun k => by rw [slices_Index_string_string.l0, if_neg (by omega)]) (Tt.some ⟨fun h => by omega, fun ⟨j, h1, h2, _⟩ => by omega⟩)
  | d + 1, i, h => by
    have hi : i < S.length := by omega
    by_cases c : a.toList = (rdOf ByteArray.empty S (i : Int)).toList
    · have e : S[i] = a := by
        rw [rdOf_at hi, lst_tl, lst_tl] at c
        exact (lst_inj c).symm
      exact Tt.step (f := fun _ => some (i : Int)) (fun k => by rw [slices_Index_string_string.l0, if_pos (by omega), if_pos (by omega), if_pos (by omega), if_pos c]) (Tt.some ⟨fun _ => ⟨i, hi, Nat.le_refl _, e⟩, fun _ => by omega⟩)
    · have hne : S[i] ≠ a := fun e => c (by rw [rdOf_at hi, e])
      refine Tt.step (fun k => ?_) ((idx_tt S a hl d (i + 1) (by omega)).mono (fun r hr => ?_))
      · rw [slices_Index_string_string.l0, if_pos (by omega), if_pos (by omega), if_pos (by omega), if_neg c, w1 hi (by omega)]
      · rw [hr]
        constructor
        · rintro ⟨j, h1, h2, h3⟩
          exact ⟨j, h1, by omega, h3⟩
        · rintro ⟨j, h1, h2, h3⟩
          have : j ≠ i := by rintro rfl; exact hne h3
          exact ⟨j, h1, by omega, h3⟩
noncomputable instance (a : ByteArray) (S : List ByteArray) : Decidable (a ∈ S) := Classical.propDecidable _
theorem contains_ev (S : List ByteArray) (a : ByteArray) (hl : S.length ≤ 1000000000000) : Ev (fun k => slices_Contains_string_string.f k S a) (decide (a ∈ S)) := by
  obtain ⟨r, hr, h⟩ := idx_tt S a hl S.length 0 (by omega)
  unfold slices_Contains_string_string.f slices_Index_string_string.f
  refine Ev.bind hr ?_
  have : decide (r ≥ 0) = decide (a ∈ S) := by
    apply Bool.eq_iff_iff.2
    rw [decide_eq_true_eq, decide_eq_true_eq]
    show 0 ≤ r ↔ _
    rw [h, List.mem_iff_getElem]
    constructor
    · rintro ⟨j, h1, _, h3⟩; exact ⟨j, h1, h3⟩
    · rintro ⟨j, h1, h3⟩; exact ⟨j, h1, Nat.zero_le _, h3⟩
  rw [this]
  exact Ev.now _
theorem less_eq (a b : ByteArray) : cmp_Less_string.f a b = some (decide (lst a < lst b)) := by
  unfold cmp_Less_string.f cmp_isNaN_string.f
  rw [Option.bind_some, show (a.toList != a.toList) = false from bne_self_eq_false a.toList, if_neg (by decide), bl_lt]
theorem sorted_ev (S : List ByteArray) (hl : S.length ≤ 1000000000000) (hs : ∀ (i : Nat) (h : i + 1 < S.length), ¬ lst S[i + 1] < lst (S[i]'(by omega))) : ∀ i : Nat, (i = 0 ∨ i < S.length) → Ev (fun k => slices_IsSorted_string_string.l0 k S (i : Int)) true
  | 0, _ => Ev.step (f := fun _ => some true) (fun k => by rw [slices_IsSorted_string_string.l0, if_neg (by omega)]) (Ev.now _)
  | i + 1, h => by
    have hi : i + 1 < S.length := by omega
    have ih := sorted_ev S hl hs i (.inr (by omega))
    have hw : wrap64 (((i + 1 : Nat) : Int) - 1) = (i : Int) := by rw [w64 (by omega) (by omega)]; omega
    refine Ev.step (fun k => ?_) ih
    rw [slices_IsSorted_string_string.l0, if_pos (by omega), if_pos (by omega), if_pos (by omega), hw, if_pos (by omega), if_pos (by omega), less_eq, rdOf_at hi, rdOf_at (show i < S.length by omega), decide_eq_false (hs i hi), Option.bind_some, if_neg (by decide)]
theorem isSorted_ev (S : List ByteArray) (hl : S.length ≤ 1000000000000) (hs : ∀ (i : Nat) (h : i + 1 < S.length), ¬ lst S[i + 1] < lst (S[i]'(by omega))) : Ev (fun k => slices_IsSorted_string_string.f k S) true := by
  unfold slices_IsSorted_string_string.f
  by_cases h0 : S.length = 0
  · rw [h0, w64 (by omega) (by omega)]
    exact Ev.step (f := fun _ => some true) (fun k => by rw [slices_IsSorted_string_string.l0, if_neg (by omega)]) (Ev.now _)
  · rw [w64 (by omega) (by omega), show (S.length : Int) - 1 = ((S.length - 1 : Nat) : Int) by omega]
    exact sorted_ev S hl hs _ (.inr (by omega))
/-! ### For finitely many at once -/
theorem all_at {P : Nat → Nat → Prop} : ∀ n : Nat, (∀ i, i < n → ∃ K, ∀ k, K ≤ k → P i k) → ∃ K, ∀ k, K ≤ k → ∀ i, i < n → P i k
  | 0, _ => ⟨0, fun k _ i h => by omega⟩
  | n + 1, h => by
    obtain ⟨K1, h1⟩ := all_at n (fun i hi => h i (by omega))
    obtain ⟨K2, h2⟩ := h n (Nat.lt_succ_self _)
    refine ⟨K1 + K2, fun k hk i hi => ?_⟩
    by_cases e : i = n
    · subst e; exact h2 k (by omega)
    · exact h1 k (by omega) i (by omega)
def ado (l : List S30) (j : Nat) : ByteArray := adr (rd_T30 l (j : Int)).f0
def kyo (l : List S30) (j : Nat) : ByteArray := keyOf (rd_T30 l (j : Int)).f0
theorem ads_ev {l : List S30} (h : Site l) : ∃ K, ∀ k, K ≤ k → Ads k l (ado l) (kyo l) := by
  obtain ⟨K, hK⟩ := all_at (P := fun j k => ship_Address.f k (rd_T30 l (j : Int)).f0 = some (ado l j, 0)) l.length (fun j hj => adr_ev (h.ok j hj).1 (h.ok j hj).2.1)
  refine ⟨K, fun k hk => ⟨hK k hk, fun j hj => ?_, fun j hj => ?_⟩⟩
  · have hz := adr_size (p := (rd_T30 l (j : Int)).f0)
    have hg := (h.ok j hj).2.1.sz
    show strings_TrimSuffix.f (adr _) _ = _
    rw [trim _ _ (by omega)]
    rfl
  · have hz := adr_size (p := (rd_T30 l (j : Int)).f0)
    have hg := (h.ok j hj).2.1.sz
    have := keyOf_size (rd_T30 l (j : Int)).f0
    exact Nat.le_trans (show (kyo l j).size ≤ 1000 by unfold kyo; omega) (by decide)
theorem adr_inj {p q : ByteArray} (hp : Ev (fun k => ship_isPath.f k p) true) (gp : Good p) (hq : Ev (fun k => ship_isPath.f k q) true) (gq : Good q) (e : adr p = adr q) : p = q := by
  have h1 := path_back hp gp
  have h2 := path_back hq gq
  rw [e] at h1
  have := Ev.uniq h1 h2
  injection this
/-- the events, of two right sites -/
def evs (l0 l1 : List S30) : List ByteArray := ev2 (bd l0 l0.length) (ado l1) l1 (ev1 (bd l1 l1.length) (ado l0) l0 l0.length) l1.length
theorem evs_len (l0 l1 : List S30) : (evs l0 l1).length ≤ l0.length + l1.length := by
  have h1 := ev2_len (bd l0 l0.length) (ado l1) l1 (ev1 (bd l1 l1.length) (ado l0) l0 l0.length) l1.length
  have h2 := ev1_len (bd l1 l1.length) (ado l0) l0 l0.length
  unfold evs
  omega
/-- an address is an event if and only if it is only in one of the sites, or its bodies differ -/
theorem evs_mem {l0 l1 : List S30} (s0 : Site l0) (s1 : Site l1) {p : ByteArray} (hp : Ev (fun k => ship_isPath.f k p) true) (gp : Good p) (hin : (at_ l0 p l0.length 0).2 = true ∨ (at_ l1 p l1.length 0).2 = true) :
    decide (adr p ∈ srt (evs l0 l1)) = ((at_ l0 p l0.length 0).2 != (at_ l1 p l1.length 0).2 || ((at_ l0 p l0.length 0).1.toList != (at_ l1 p l1.length 0).1.toList)) := by
  have key : adr p ∈ srt (evs l0 l1) ↔ (∃ j : Nat, j < l0.length ∧ chg (bd l1 l1.length) (rd_T30 l0 (j : Int)) = true ∧ (rd_T30 l0 (j : Int)).f0 = p) ∨ (∃ j : Nat, j < l1.length ∧ ¬ (Mp.look (bd l0 l0.length) p).isSome = true ∧ (rd_T30 l1 (j : Int)).f0 = p) := by
    rw [srt_mem]
    unfold evs
    rw [ev2_mem, ev1_mem]
    constructor
    · rintro (⟨j, h1, h2, h3⟩ | ⟨j, h1, h2, h3⟩)
      · exact .inl ⟨j, h1, h2, adr_inj (s0.ok j h1).1 (s0.ok j h1).2.1 hp gp h3⟩
      · have := adr_inj (s1.ok j h1).1 (s1.ok j h1).2.1 hp gp h3
        exact .inr ⟨j, h1, by rw [this] at h2; exact h2, this⟩
    · rintro (⟨j, h1, h2, h3⟩ | ⟨j, h1, h2, h3⟩)
      · exact .inl ⟨j, h1, h2, by unfold ado; rw [h3]⟩
      · exact .inr ⟨j, h1, by rw [h3]; exact h2, by unfold ado; rw [h3]⟩
  cases hw : (at_ l0 p l0.length 0).2 with
  | true =>
    obtain ⟨j0, _, hj0, e0, b0⟩ := at_true l0 p l0.length 0 hw
    have hj0 : j0 < l0.length := by omega
    cases hi : (at_ l1 p l1.length 0).2 with
    | true =>
      obtain ⟨j1, _, hj1, e1, b1⟩ := at_true l1 p l1.length 0 hi
      have hj1 : j1 < l1.length := by omega
      have hc : chg (bd l1 l1.length) (rd_T30 l0 (j0 : Int)) = ((rd_T30 l1 (j1 : Int)).f1.toList != (rd_T30 l0 (j0 : Int)).f1.toList) := by
        unfold chg
        rw [e0, bd_at s1 hj1 e1]
        rfl
      rw [b0, b1]
      apply Bool.eq_iff_iff.2
      rw [decide_eq_true_eq, key]
      constructor
      · rintro (⟨j, h1, h2, h3⟩ | ⟨j, h1, h2, h3⟩)
        · have : j = j0 := nm_inj s0 h1 hj0 (by unfold nm; rw [h3, e0])
          subst this
          rw [hc] at h2
          rw [bne_iff_ne] at h2
          simpa using h2.symm
        · rw [bd_at s0 hj0 e0] at h2
          exact absurd rfl h2
      · intro h
        refine .inl ⟨j0, hj0, ?_, e0⟩
        rw [hc, bne_iff_ne]
        intro e
        rw [e] at h
        simp at h
    | false =>
      have hn : Mp.look (bd l1 l1.length) p = none := by
        cases hb : Mp.look (bd l1 l1.length) p with
        | none => rfl
        | some b =>
          obtain ⟨j, h1, h2, _⟩ := bd_some _ hb
          exact absurd h2 (at_false l1 p l1.length 0 hi j (Nat.zero_le _) (by omega))
      rw [decide_eq_true (key.2 (.inl ⟨j0, hj0, by unfold chg; rw [e0, hn]; rfl, e0⟩))]
      rfl
  | false =>
    have hi : (at_ l1 p l1.length 0).2 = true := by
      rcases hin with h | h
      · rw [hw] at h; cases h
      · exact h
    obtain ⟨j1, _, hj1, e1, b1⟩ := at_true l1 p l1.length 0 hi
    have hj1 : j1 < l1.length := by omega
    have hn : Mp.look (bd l0 l0.length) p = none := by
      cases hb : Mp.look (bd l0 l0.length) p with
      | none => rfl
      | some b =>
        obtain ⟨j, h1, h2, _⟩ := bd_some _ hb
        exact absurd h2 (at_false l0 p l0.length 0 hw j (Nat.zero_le _) (by omega))
    rw [hi, decide_eq_true (key.2 (.inr ⟨j1, hj1, by rw [hn]; decide, e1⟩))]
    rfl
/-- what Serve answers to an output's address -/
theorem served {l : List S30} (h : Site l) {a p : ByteArray} {code : Int} {path body : ByteArray} {e0 : Int} (ha : Answers l a p code path body e0) (hi : (at_ l p l.length 0).2 = true) (hz : a.size ≤ 200) : e0 = 0 ∧ code = 200 ∧ body = (at_ l p l.length 0).1 ∧ path = p := by
  obtain ⟨i, ⟨hin, hlo, hhi⟩, hf⟩ := ha hz
  obtain ⟨j, _, hj, e, hb⟩ := at_true l p l.length 0 hi
  have hj : j < l.length := by omega
  have hgj : geb l p j = true := by rw [geb_eq, Bool.not_eq_true', decide_eq_false_iff_not]; unfold nm; rw [e]; exact List.lt_irrefl _
  have hij : i ≤ j := by
    rcases Nat.lt_or_ge j i with hlt | hge
    · rw [hlo j hlt] at hgj; cases hgj
    · exact hge
  have hil : i < l.length := by omega
  have hgi := hhi i (Nat.le_refl _) hil
  rw [geb_eq, Bool.not_eq_true', decide_eq_false_iff_not] at hgi
  have : i = j := by
    rcases Nat.lt_or_ge i j with hlt | hge
    · have := nm_ord h hlt hj
      unfold nm at this hgi
      rw [e] at this
      exact absurd this hgi
    · omega
  subst this
  have hfnd : fnd l p i = true := by
    unfold fnd
    rw [e, decide_eq_true hil, Bool.true_and]
    exact beq_iff_eq.2 rfl
  obtain ⟨h1, h2, h3, h4⟩ := hf hfnd
  exact ⟨h1, h2, by rw [h4, hb], h3⟩
theorem rd_app0 {l0 l1 : List S30} {j : Nat} (h : j < l0.length) : rd_T30 (l0 ++ l1) (j : Int) = rd_T30 l0 (j : Int) := by
  unfold rd_T30
  rw [Int.toNat_natCast, List.getD_eq_getElem?_getD, List.getD_eq_getElem?_getD, List.getElem?_append_left h]
theorem rd_app1 {l0 l1 : List S30} {j : Nat} (h : l0.length ≤ j) : rd_T30 (l0 ++ l1) (j : Int) = rd_T30 l1 ((j - l0.length : Nat) : Int) := by
  unfold rd_T30
  rw [Int.toNat_natCast, Int.toNat_natCast, List.getD_eq_getElem?_getD, List.getD_eq_getElem?_getD, List.getElem?_append_right h]
theorem at_in {l : List S30} {j : Nat} (hj : j < l.length) : (at_ l (rd_T30 l (j : Int)).f0 l.length 0).2 = true := by
  cases h : (at_ l (rd_T30 l (j : Int)).f0 l.length 0).2 with
  | true => rfl
  | false => exact absurd rfl (at_false l _ l.length 0 h j (Nat.zero_le _) (by omega))
/-- The law, for all sites. -/
theorem TopServed (l0 l1 : List S30) : ∃ k, LSok k l0 l1 true := by
  obtain ⟨K1, h1⟩ := awake_ev
  obtain ⟨e0, ⟨K2, h2⟩, q0⟩ := co_tt l0
  by_cases z0 : e0 = 0
  case neg => exact ⟨K1 + K2, rfl, h1 _ (by omega), .inl ⟨e0, z0, .inl (h2 _ (by omega))⟩⟩
  subst z0
  obtain ⟨e1, ⟨K3, h3⟩, q1⟩ := co_tt l1
  by_cases z1 : e1 = 0
  case neg => exact ⟨K1 + K2 + K3, rfl, h1 _ (by omega), .inl ⟨e1, z1, .inr ⟨h2 _ (by omega), h3 _ (by omega)⟩⟩⟩
  subst z1
  have s0 := q0 rfl
  have s1 := q1 rfl
  have n0 := s0.n
  have n1 := s1.n
  have hlen := evs_len l0 l1
  have hsl := srt_len (evs l0 l1)
  obtain ⟨K4, h4⟩ := ads_ev s0
  obtain ⟨K5, h5⟩ := ads_ev s1
  obtain ⟨K6, h6⟩ := isSorted_ev (srt (evs l0 l1)) (by omega) (fun i h => srt_ord _ i h)
  obtain ⟨K7, h7⟩ := all_at (P := fun j k => ∃ a b c was is, Idx k l0 l1 (srt (evs l0 l1)) (rd_T30 (l0 ++ l1) (j : Int)) a b c was is) (l0 ++ l1).length (fun j hj => by
    have hx : Ev (fun k => ship_isPath.f k (rd_T30 (l0 ++ l1) (j : Int)).f0) true ∧ Good (rd_T30 (l0 ++ l1) (j : Int)).f0 ∧ ((at_ l0 (rd_T30 (l0 ++ l1) (j : Int)).f0 l0.length 0).2 = true ∨ (at_ l1 (rd_T30 (l0 ++ l1) (j : Int)).f0 l1.length 0).2 = true) := by
      rw [List.length_append] at hj
      rcases Nat.lt_or_ge j l0.length with hlt | hge
      · rw [rd_app0 hlt]
        exact ⟨(s0.ok j hlt).1, (s0.ok j hlt).2.1, .inl (at_in hlt)⟩
      · rw [rd_app1 hge]
        have hlt : j - l0.length < l1.length := by omega
        exact ⟨(s1.ok _ hlt).1, (s1.ok _ hlt).2.1, .inr (at_in hlt)⟩
    obtain ⟨hp, gp, hin⟩ := hx
    generalize rd_T30 (l0 ++ l1) (j : Int) = x at *
    obtain ⟨L1, g1⟩ := adr_ev hp gp
    obtain ⟨L2, g2⟩ := at_ev l0 x.f0 (by omega) l0.length 0 (by omega)
    obtain ⟨L3, g3⟩ := at_ev l1 x.f0 (by omega) l1.length 0 (by omega)
    obtain ⟨L4, g4⟩ := contains_ev (srt (evs l0 l1)) (adr x.f0) (by omega)
    obtain ⟨L5, g5⟩ := req_ev hp gp
    rw [evs_mem s0 s1 hp gp hin] at g4
    refine ⟨L1 + L2 + L3 + L4 + L5, fun k hk => ⟨adr x.f0, _, _, _, _, g1 k (by omega), g2 k (by omega), g3 k (by omega), g4 k (by omega), g5 k (by omega), fun code path body e0 ha hi hz => served s1 ha hi hz⟩⟩)
  have hz : ∀ {l : List S30}, Site l → ∀ j : Nat, j < l.length → (rd_T30 l (j : Int)).f0.size ≤ maxLen := fun h j hj => Nat.le_trans (h.ok j hj).2.1.sz (by decide)
  exact ⟨K1 + K2 + K3 + K4 + K5 + K6 + K7, rfl, h1 _ (by omega), .inr ⟨by omega, by omega, srt (evs l0 l1), ado l0, kyo l0, ado l1, kyo l1, h2 _ (by omega), h3 _ (by omega), h4 _ (by omega), h5 _ (by omega), hz s0, hz s1, rfl, sorted_of s1, h7 _ (by omega), h6 _ (by omega)⟩⟩
end Go.Proofs.YtbldjamcnohfjaaDoor.Pure
