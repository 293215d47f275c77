/- For TreeTranslates: each function that CheckSite reaches comes to an answer. -/
import Derived.Test.YtcgmieeojngceaaDoorScratchF
import Derived.Lib.Strings
namespace Go.Proofs.YtcgmieeojngceaaDoor.Pure
open Go.RowKit Go.Proofs.YtcgmieeojngceaaDoor.PTreeTranslates Go.Proofs.YtcgmieeojngceaaDoorW.PrintWords Go.Proofs.YtcgmieeojngceaaDoorW.PrintLast Go.Proofs.YtcgmieeojngceaaDoorW.PrintMore
set_option linter.unusedVariables false
set_option linter.unusedSimpArgs false
/-! ### Answers that come -/
/-- with enough rounds it comes to an answer, of which Q holds -/
def Tt {α : Type} (g : Nat → Option α) (Q : α → Prop) : Prop := ∃ r, Ev g r ∧ Q r
section
variable {α β : Type} {Q : α → Prop} {R : β → Prop}
theorem Tt.some {r : α} (h : Q r) : Tt (fun _ => Option.some r) Q := ⟨r, Ev.now r, h⟩
theorem Tt.ite {c : Prop} [Decidable c] {a b : Nat → Option α} (h1 : c → Tt a Q) (h2 : ¬ c → Tt b Q) : Tt (fun n => if c then a n else b n) Q := by
  by_cases h : c
  · obtain ⟨r, hr, hq⟩ := h1 h
    exact ⟨r, Ev.congr (fun k => if_pos h) hr, hq⟩
  · obtain ⟨r, hr, hq⟩ := h2 h
    exact ⟨r, Ev.congr (fun k => if_neg h) hr, hq⟩
theorem Tt.bind {g : Nat → Option α} {f : Nat → α → Option β} (h : Tt g Q) (k : ∀ a, Ev g a → Q a → Tt (fun n => f n a) R) : Tt (fun n => (g n).bind (f n)) R := by
  obtain ⟨a, ha, hq⟩ := h
  obtain ⟨r, hr, hr2⟩ := k a ha hq
  exact ⟨r, Ev.bind ha hr, hr2⟩
theorem Tt.step {g f : Nat → Option α} (h : ∀ k, g (k + 1) = f k) (k : Tt f Q) : Tt g Q := by
  obtain ⟨r, hr, hq⟩ := k
  exact ⟨r, Ev.step h hr, hq⟩
theorem Tt.mono {g : Nat → Option α} {Q' : α → Prop} (h : Tt g Q) (k : ∀ r, Q r → Q' r) : Tt g Q' := by
  obtain ⟨r, hr, hq⟩ := h
  exact ⟨r, hr, k r hq⟩
theorem Tt.all {g : Nat → Option α} (h : Tt g Q) : Tt g (fun _ => True) := h.mono fun _ _ => trivial
theorem Tt.ofEv {g : Nat → Option α} {r : α} (h : Ev g r) : Tt g (fun _ => True) := ⟨r, h, trivial⟩
end
theorem w64 {n : Int} (h0 : -9223372036854775808 ≤ n) (h1 : n < 9223372036854775808) : wrap64 n = n := by unfold wrap64; omega
theorem w1 {i n : Nat} (h : i < n) (hn : n ≤ 4611686018427387904) : wrap64 ((i : Int) + 1) = ((i + 1 : Nat) : Int) := by rw [w64 (by omega) (by omega)]; omega
theorem tl_ne {s : ByteArray} (h : ¬ s.toList = ([] : List UInt8)) : 0 < s.size := by
  by_cases h0 : 0 < s.size
  · exact h0
  · exact absurd ((Lib.toList_data s).trans (List.eq_nil_of_length_eq_zero (by have := Lib.size_eq s; omega))) h
/-! ### Paths -/
theorem small_tt (c : Int) : Tt (fun _ => tree_isSmall.f c) (fun _ => True) := by
  unfold tree_isSmall.f
  exact Tt.ite (fun _ => Tt.some trivial) (fun _ => Tt.some trivial)
theorem digit_tt (c : Int) : Tt (fun _ => tree_isDigit.f c) (fun _ => True) := by
  unfold tree_isDigit.f
  exact Tt.ite (fun _ => Tt.some trivial) (fun _ => Tt.some trivial)
theorem part_loop (s : ByteArray) (hs : s.size ≤ 4611686018427387904) : ∀ d i : Nat, i + d = s.size → Tt (fun k => tree_isPart.l0 k s (i : Int)) (fun _ => True)
  | 0, i, h => Tt.step (f := fun _ => some true) (fun k => by rw [tree_isPart.l0, if_neg (by omega)]) (Tt.some trivial)
  | d + 1, i, h => by
    have ih := part_loop s hs d (i + 1) (by omega)
    rw [← w1 (show i < s.size by omega) hs] at ih
    refine Tt.step (fun k => by rw [tree_isPart.l0]) ?_
    repeat' first
      | exact ih
      | exact Tt.some trivial
      | refine Tt.bind (small_tt _) (fun _ _ _ => ?_)
      | refine Tt.bind (digit_tt _) (fun _ _ _ => ?_)
      | refine Tt.ite (fun _ => ?_) (fun _ => ?_)
      | (exfalso; omega)
theorem part_tt (s : ByteArray) (hs : s.size ≤ 4611686018427387904) : Tt (fun k => tree_isPart.f k s) (fun _ => True) := by
  have hl : Tt (fun k => tree_isPart.l0 k s 0) (fun _ => True) := part_loop s hs s.size 0 (by omega)
  have hj : ∀ b, Tt (fun k => tree_isPart.j0 k s b) (fun _ => True) := fun b => Tt.step (f := fun k => if b = true then some false else tree_isPart.l0 k s 0) (fun k => by rw [tree_isPart.j0]) (Tt.ite (fun _ => Tt.some trivial) (fun _ => hl))
  unfold tree_isPart.f
  repeat' first
    | exact hj _
    | refine Tt.ite (fun _ => ?_) (fun _ => ?_)
theorem rdOf_at {l : List ByteArray} {i : Nat} (h : i < l.length) : rdOf ByteArray.empty l (i : Int) = l[i] := by
  unfold rdOf; simp [List.getD_eq_getElem?_getD, h]
theorem path_loop (l : List ByteArray) (hl : l.length ≤ 4611686018427387904) (hall : ∀ p ∈ l, p.size ≤ 4611686018427387904) : ∀ d i : Nat, i + d = l.length → Tt (fun k => tree_isPath.l0 k l (l.length : Int) (i : Int)) (fun _ => True)
  | 0, i, h => Tt.step (f := fun _ => some true) (fun k => by rw [tree_isPath.l0, if_neg (by omega)]) (Tt.some trivial)
  | d + 1, i, h => by
    have ih := path_loop l hl hall d (i + 1) (by omega)
    rw [← w1 (show i < l.length by omega) hl] at ih
    have hp := part_tt (rdOf ByteArray.empty l (i : Int)) (by rw [rdOf_at (show i < l.length by omega)]; exact hall _ (List.getElem_mem _))
    refine Tt.step (fun k => by rw [tree_isPath.l0]) ?_
    repeat' first
      | exact ih
      | exact Tt.some trivial
      | refine Tt.bind hp (fun _ _ _ => ?_)
      | refine Tt.ite (fun _ => ?_) (fun _ => ?_)
      | (exfalso; omega)
theorem cutAll_sz {c : UInt8} : ∀ {L : List UInt8}, ∀ p ∈ cutAll c L, p.length ≤ L.length
  | [], p, h => by simp [cutAll] at h; rw [h]; simp
  | x :: L, p, h => by
    unfold cutAll at h
    have ih := cutAll_sz (c := c) (L := L)
    have hne := cutAll_ne c L
    generalize cutAll c L = Q at *
    match Q, hne with
    | q :: qs, _ =>
      by_cases e : x = c
      · rw [if_pos e] at h
        rcases List.mem_cons.1 h with rfl | h
        · simp
        · have := ih p h; simp; omega
      · rw [if_neg e] at h
        simp only [List.headD_cons, List.tail_cons, List.mem_cons] at h
        rcases h with rfl | h
        · have := ih q (by simp); simp; omega
        · have := ih p (by simp [h]); simp; omega
theorem path_tt (s : ByteArray) : Tt (fun k => tree_isPath.f k s) (fun _ => True) := by
  unfold tree_isPath.f
  refine Tt.ite (fun _ => Tt.some trivial) (fun hs => ?_)
  have hsz := Lib.size_eq s
  have e : strings_Split.f s (⟨#[47]⟩ : ByteArray) = some (cutB 47 s) := by
    unfold strings_Split.f; rw [if_pos ⟨rfl, by omega⟩]; rfl
  refine Tt.bind (g := fun _ => strings_Split.f s (⟨#[47]⟩ : ByteArray)) (Q := fun r => r = cutB 47 s) ⟨cutB 47 s, Ev.congr (fun _ => e) (Ev.now _), rfl⟩ ?_
  rintro r _ rfl
  refine path_loop _ ?_ ?_ (cutB 47 s).length 0 (by omega)
  · unfold cutB
    rw [List.length_map, cutAll_len]
    have : Lib.countByte s.data.toList 47 ≤ (s.data.toList.length : Nat) := by unfold Lib.countByte; exact_mod_cast List.count_le_length
    omega
  · intro p hp
    unfold cutB at hp
    obtain ⟨q, hq, rfl⟩ := List.mem_map.1 hp
    have := cutAll_sz q hq
    have h2 := Lib.size_eq (⟨q.toArray⟩ : ByteArray)
    simp at h2
    omega
theorem awake_ev : Ev (fun k => mastkeep2_awakeTree.f k) true := by
  have h : Ev (fun k => tree_isPath.f k (⟨#[]⟩ : ByteArray)) false := by
    refine Ev.of (k := 8) (tree_isPath.mono _) ?_
    decide +kernel
  unfold mastkeep2_awakeTree.f tree_CheckPath.f
  exact Ev.bind (Ev.bind h (Ev.now 3)) (Ev.now true)
/-! ### Languages, addresses -/
theorem trim_tt (s : ByteArray) (hs : ¬ (s.size : Int) > 8) : Tt (fun _ => strings_Trim.f s (⟨#[97, 98, 99, 100, 101, 102, 103, 104, 105, 106, 107, 108, 109, 110, 111, 112, 113, 114, 115, 116, 117, 118, 119, 120, 121, 122]⟩ : ByteArray)) (fun _ => True) := by
  unfold strings_Trim.f
  exact Tt.ite (fun _ => Tt.ite (fun _ => Tt.ite (fun _ => Tt.some trivial) (fun h => absurd (by decide +kernel) h)) (fun h => absurd (by decide +kernel) h)) (fun h => absurd (by omega) h)
theorem lf_loop1 (x0 : List ByteArray) (x4 : ByteArray) (hx0 : x0.length ≤ 8) (i : Nat) (hi : i < x0.length) (hnext : Tt (fun k => tree_languagesFit.l0 k x0 x0 (x0.length : Int) ((i + 1 : Nat) : Int)) (fun _ => True)) (xs : List ByteArray) (hxs : xs.length ≤ 8) :
    ∀ d j : Nat, j + d = xs.length → Tt (fun k => tree_languagesFit.l1 k x0 x4 x0 (x0.length : Int) (i : Int) xs (xs.length : Int) (j : Int)) (fun _ => True)
  | 0, j, h => Tt.step (fun k => by rw [tree_languagesFit.l1, if_neg (by omega), w1 hi (by omega)]) hnext
  | d + 1, j, h => by
    have ih := lf_loop1 x0 x4 hx0 i hi hnext xs hxs d (j + 1) (by omega)
    rw [← w1 (show j < xs.length by omega) (by omega)] at ih
    refine Tt.step (fun k => by rw [tree_languagesFit.l1]) ?_
    repeat' first
      | exact ih
      | exact Tt.some trivial
      | refine Tt.ite (fun _ => ?_) (fun _ => ?_)
      | (exfalso; omega)
theorem lf_loop0 (x0 : List ByteArray) (hx0 : x0.length ≤ 8) : ∀ d i : Nat, i + d = x0.length → Tt (fun k => tree_languagesFit.l0 k x0 x0 (x0.length : Int) (i : Int)) (fun _ => True)
  | 0, i, h => Tt.step (f := fun _ => some true) (fun k => by rw [tree_languagesFit.l0, if_neg (by omega)]) (Tt.some trivial)
  | d + 1, i, h => by
    have ih := lf_loop0 x0 hx0 d (i + 1) (by omega)
    have hj : ∀ s b, Tt (fun k => tree_languagesFit.j2 k x0 (i : Int) s x0 (x0.length : Int) (i : Int) b) (fun _ => True) := by
      intro s b
      have h1 := lf_loop1 x0 s hx0 i (by omega) ih (x0.take i) (by rw [List.length_take]; omega) (x0.take i).length 0 (by omega)
      refine Tt.step (fun k => by rw [tree_languagesFit.j2, Int.toNat_natCast]) ?_
      repeat' first
        | exact h1
        | exact Tt.some trivial
        | refine Tt.ite (fun _ => ?_) (fun _ => ?_)
        | (exfalso; omega)
    refine Tt.step (fun k => by rw [tree_languagesFit.l0]) ?_
    refine Tt.ite (fun _ => Tt.ite (fun _ => Tt.ite (fun _ => Tt.ite (fun _ => hj _ _) (fun _ => Tt.ite (fun _ => hj _ _) (fun h8 => Tt.bind (trim_tt _ h8) (fun _ _ _ => hj _ _)))) (fun _ => ?_)) (fun _ => ?_)) (fun _ => Tt.some trivial)
    all_goals (exfalso; omega)
theorem lf_tt (l0 : List ByteArray) : Tt (fun k => tree_languagesFit.f k l0) (fun r => r = true → 0 < l0.length ∧ l0.length ≤ 8) := by
  unfold tree_languagesFit.f
  refine Tt.ite (fun _ => Tt.step (f := fun _ => some false) (fun k => by rw [tree_languagesFit.j0, if_pos rfl]) (Tt.some (fun h => by cases h))) (fun h1 => ?_)
  by_cases h8 : (l0.length : Int) > 8
  · refine Tt.step (f := fun _ => some false) (fun k => by rw [tree_languagesFit.j0, if_pos (decide_eq_true h8)]) (Tt.some (fun h => by cases h))
  · refine Tt.step (f := fun k => tree_languagesFit.l0 k l0 l0 (l0.length : Int) 0) (fun k => by rw [tree_languagesFit.j0, if_neg (by simpa using h8)]) ((lf_loop0 l0 (by omega) l0.length 0 (by omega)).mono (fun r _ _ => ⟨by omega, by omega⟩))
theorem pos_loop (s : ByteArray) (l : List ByteArray) (hl : l.length ≤ 4611686018427387904) : ∀ d i : Nat, i + d = l.length → Tt (fun k => tree_position.l0 k s l (l.length : Int) (i : Int)) (fun _ => True)
  | 0, i, h => Tt.step (f := fun _ => some (-1)) (fun k => by rw [tree_position.l0, if_neg (by omega)]) (Tt.some trivial)
  | d + 1, i, h => by
    have ih := pos_loop s l hl d (i + 1) (by omega)
    rw [← w1 (show i < l.length by omega) hl] at ih
    refine Tt.step (fun k => by rw [tree_position.l0]) ?_
    repeat' first
      | exact ih
      | exact Tt.some trivial
      | refine Tt.ite (fun _ => ?_) (fun _ => ?_)
      | (exfalso; omega)
theorem pos_tt (l : List ByteArray) (s : ByteArray) (hl : l.length ≤ 4611686018427387904) : Tt (fun k => tree_position.f k l s) (fun _ => True) := by
  unfold tree_position.f
  exact pos_loop s l hl l.length 0 (by omega)
theorem addr_tt (s : ByteArray) (hs : s.size ≤ 4611686018427387904) : Tt (fun k => tree_isAddress.f k s) (fun _ => True) := by
  by_cases h2 : (s.size : Int) > 2
  · unfold tree_isAddress.f
    rw [w64 (n := (s.size : Int) - 1) (by omega) (by omega)]
    repeat' first
      | exact Tt.some trivial
      | refine Tt.bind (path_tt _) (fun _ _ _ => ?_)
      | refine Tt.ite (fun _ => ?_) (fun _ => ?_)
      | (exfalso; omega)
  · unfold tree_isAddress.f
    exact Tt.ite (fun _ => Tt.some trivial) (fun _ => Tt.ite (fun h => absurd h h2) (fun _ => Tt.some trivial))
theorem root_tt (l0 : List ByteArray) (s : ByteArray) (h0 : 0 < l0.length) (hs : s.size ≤ 4611686018427387904) : Tt (fun _ => tree_rootOf.f l0 s) (fun _ => True) := by
  unfold tree_rootOf.f
  have e1 : (⟨#[47]⟩ : ByteArray).size = 1 := rfl
  refine Tt.ite (fun _ => Tt.ite (fun _ => Tt.some trivial) (fun _ => Tt.ite (fun _ => Tt.ite (fun _ => Tt.some trivial) (fun h => ?_)) (fun h => ?_))) (fun h => ?_)
  · exfalso; apply h; rw [ByteArray.size_append]; omega
  · exfalso; omega
  · exfalso; omega
end Go.Proofs.YtcgmieeojngceaaDoor.Pure
