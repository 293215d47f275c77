/- For AssetJoined: paths hold no blank; a number in base 32 is read back. -/
import Derived.Test.YthagabjcoknogaaDoorPAssetJoinedx5
import Derived.Test.YthagabjcoknogaaDoorBytes
namespace Go.Proofs.YthagabjcoknogaaDoor.Pure
open Go.RowKit Go.Proofs.YthagabjcoknogaaDoor.PAssetJoined Go.Proofs.YthagabjcoknogaaDoorW.PrintWords Go.Proofs.YthagabjcoknogaaDoorW.PrintLast Go.Proofs.YthagabjcoknogaaDoorW.PrintMore
set_option linter.unusedVariables false
set_option linter.unusedSimpArgs false
/-! Paths: told, and without blanks. -/
def Pl (c : UInt8) : Prop := c ≠ 32 ∧ c ≠ 10
theorem pl_of {c : UInt8} {n : Int} (h : (c.toNat : Int) = n) (h1 : n ≠ 32) (h2 : n ≠ 10) : Pl c := by
  constructor
  · rintro rfl; exact h1 (h ▸ rfl)
  · rintro rfl; exact h2 (h ▸ rfl)
theorem small_ev (c : Int) : ∃ b, tree_isSmall.f c = some b ∧ (b = true → 97 ≤ c ∧ c ≤ 122) := by
  unfold tree_isSmall.f
  split
  · exact ⟨_, rfl, fun h => ⟨by omega, of_decide_eq_true h⟩⟩
  · exact ⟨_, rfl, fun h => by cases h⟩
theorem digit_ev (c : Int) : ∃ b, tree_isDigit.f c = some b ∧ (b = true → 48 ≤ c ∧ c ≤ 57) := by
  unfold tree_isDigit.f
  split
  · exact ⟨_, rfl, fun h => ⟨by omega, of_decide_eq_true h⟩⟩
  · exact ⟨_, rfl, fun h => by cases h⟩
theorem part_loop (s : ByteArray) (hs : s.size ≤ 1000000) : ∀ d i : Nat, i + d = s.size → ∃ b, (∀ k, tree_isPart.l0 (d + 1 + k) s i = some b) ∧ (b = true → ∀ j (h : j < (lst s).length), i ≤ j → Pl (lst s)[j]) := by
  intro d
  induction d with
  | zero => exact fun i hi => ⟨true, fun k => by rw [show 0 + 1 + k = k + 1 by omega, tree_isPart.l0, if_neg (by omega)], fun _ j h hj => by rw [lst_len] at h; omega⟩
  | succ d ih =>
    intro i hi
    obtain ⟨b, hb, hP⟩ := ih (i + 1) (by omega)
    obtain ⟨b1, h1, h1'⟩ := small_ev (bt s i)
    obtain ⟨b2, h2, h2'⟩ := digit_ev (bt s i)
    have hw : wrap64 ((i : Int) + 1) = ((i + 1 : Nat) : Int) := by rw [w64 (by omega) (by omega)]; omega
    have e : ∀ k, tree_isPart.l0 (d + 1 + 1 + k) s i = if b1 = true then some b else if b2 = true then some b else if bt s i = 45 then some b else if bt s i = 95 then some b else if bt s i = 46 then some b else some false := by
      intro k
      rw [show d + 1 + 1 + k = (d + 1 + k) + 1 by omega, tree_isPart.l0, if_pos (by omega), if_pos (by omega), h1, Option.bind_some, hw, hb k, h2, Option.bind_some]
    have hi2 : i < (lst s).length := by rw [lst_len]; omega
    have step : Pl (lst s)[i] → (b = true → ∀ j (h : j < (lst s).length), i ≤ j → Pl (lst s)[j]) := fun hp hbt j h hj => by
      by_cases hji : j = i
      · subst hji; exact hp
      · exact hP hbt j h (by omega)
    have hbt := bt_lst hi2
    by_cases c1 : b1 = true
    · exact ⟨b, fun k => by rw [e, if_pos c1], step (by have := h1' c1; exact pl_of hbt.symm (by omega) (by omega))⟩
    by_cases c2 : b2 = true
    · exact ⟨b, fun k => by rw [e, if_neg c1, if_pos c2], step (by have := h2' c2; exact pl_of hbt.symm (by omega) (by omega))⟩
    by_cases c3 : bt s i = 45
    · exact ⟨b, fun k => by rw [e, if_neg c1, if_neg c2, if_pos c3], step (pl_of hbt.symm (by omega) (by omega))⟩
    by_cases c4 : bt s i = 95
    · exact ⟨b, fun k => by rw [e, if_neg c1, if_neg c2, if_neg c3, if_pos c4], step (pl_of hbt.symm (by omega) (by omega))⟩
    by_cases c5 : bt s i = 46
    · exact ⟨b, fun k => by rw [e, if_neg c1, if_neg c2, if_neg c3, if_neg c4, if_pos c5], step (pl_of hbt.symm (by omega) (by omega))⟩
    · exact ⟨false, fun k => by rw [e, if_neg c1, if_neg c2, if_neg c3, if_neg c4, if_neg c5], fun h => by cases h⟩
theorem part_ev (s : ByteArray) (hs : s.size ≤ 1000000) : ∃ b, (∀ k, s.size + 2 ≤ k → tree_isPart.f k s = some b) ∧ (b = true → lst s ≠ [] ∧ ∀ x ∈ lst s, Pl x) := by
  obtain ⟨b, hb, hP⟩ := part_loop s hs s.size 0 (by omega)
  have j0 : ∀ k, s.size + 2 ≤ k → tree_isPart.j0 k s false = some b := by
    intro k hk
    obtain ⟨j, rfl⟩ : ∃ j, k = (s.size + 1 + j) + 1 := ⟨k - s.size - 2, by omega⟩
    rw [tree_isPart.j0, if_neg (by simp)]; exact hb j
  have j1 : ∀ k, s.size + 2 ≤ k → tree_isPart.j0 k s true = some false := by
    intro k hk
    obtain ⟨j, rfl⟩ : ∃ j, k = j + 1 := ⟨k - 1, by omega⟩
    rw [tree_isPart.j0, if_pos rfl]
  have hl := lst_tl s
  by_cases c1 : s.toList = ([] : List UInt8)
  · exact ⟨false, fun k hk => by unfold tree_isPart.f; rw [if_pos c1]; exact j1 k hk, fun h => by cases h⟩
  have hne : lst s ≠ [] := by rw [← hl]; exact c1
  by_cases c2 : (s.size : Int) > 40
  · exact ⟨false, fun k hk => by unfold tree_isPart.f; rw [if_neg c1, if_pos c2]; exact j1 k hk, fun h => by cases h⟩
  by_cases c3 : s.toList = ([46] : List UInt8)
  · exact ⟨false, fun k hk => by unfold tree_isPart.f; rw [if_neg c1, if_neg c2, if_pos c3]; exact j1 k hk, fun h => by cases h⟩
  cases c4 : (s.toList == ([46, 46] : List UInt8)) with
  | true => exact ⟨false, fun k hk => by unfold tree_isPart.f; rw [if_neg c1, if_neg c2, if_neg c3, c4]; exact j1 k hk, fun h => by cases h⟩
  | false => exact ⟨b, fun k hk => by unfold tree_isPart.f; rw [if_neg c1, if_neg c2, if_neg c3, c4]; exact j0 k hk, fun hbt => ⟨hne, fun x hx => by
      obtain ⟨j, hj, rfl⟩ := List.mem_iff_getElem.1 hx
      exact hP hbt j hj (by omega)⟩⟩
theorem rdOf_at {l : List ByteArray} {i : Nat} (h : i < l.length) : rdOf ByteArray.empty l (i : Int) = l[i] := by
  unfold rdOf; simp [List.getD_eq_getElem?_getD, h]
theorem path_loop (l : List ByteArray) (n : Nat) (hn : n ≤ 1000000) (hl : l.length ≤ 1000000) (hall : ∀ p ∈ l, p.size ≤ n) : ∀ d i : Nat, i + d = l.length → ∃ b, (∀ k, tree_isPath.l0 (d + n + 3 + k) l l.length i = some b) ∧ (b = true → ∀ j (h : j < l.length), i ≤ j → lst l[j] ≠ [] ∧ ∀ x ∈ lst l[j], Pl x) := by
  intro d
  induction d with
  | zero => exact fun i hi => ⟨true, fun k => by rw [show 0 + n + 3 + k = (n + 2 + k) + 1 by omega, tree_isPath.l0, if_neg (by omega)], fun _ j h hj => by omega⟩
  | succ d ih =>
    intro i hi
    have hlt : i < l.length := by omega
    obtain ⟨b, hb, hb2⟩ := ih (i + 1) (by omega)
    obtain ⟨p, hp, hp2⟩ := part_ev l[i] (Nat.le_trans (hall _ (List.getElem_mem hlt)) hn)
    have hsz := hall _ (List.getElem_mem hlt)
    have hw : wrap64 ((i : Int) + 1) = ((i + 1 : Nat) : Int) := by rw [w64 (by omega) (by omega)]; omega
    have e : ∀ k, tree_isPath.l0 (d + 1 + n + 3 + k) l l.length i = if p = true then some b else some false := by
      intro k
      rw [show d + 1 + n + 3 + k = (d + n + 3 + k) + 1 by omega, tree_isPath.l0, if_pos (by omega), if_pos (by omega), if_pos (by omega), rdOf_at hlt, hp _ (by omega), Option.bind_some, hw, hb k]
    cases p with
    | true =>
      refine ⟨b, fun k => by rw [e, if_pos rfl], fun h j hj hij => ?_⟩
      by_cases hji : j = i
      · subst hji; exact hp2 rfl
      · exact hb2 h j hj (by omega)
    | false => exact ⟨false, fun k => by rw [e, if_neg (by simp)], fun h => by cases h⟩
theorem cutAll_sz {c : UInt8} : ∀ {L : List UInt8}, ∀ p ∈ cutAll c L, p.length ≤ L.length
  | [], p, h => by simp [cutAll] at h; rw [h]; simp
  | x :: L, p, h => by
    unfold cutAll at h
    have ih := cutAll_sz (c := c) (L := L)
    have hne := cutAll_ne c L
    generalize cutAll c L = Q at *
    match Q, hne with
    | q :: qs, _ =>
      by_cases e : x = c
      · rw [if_pos e] at h
        rcases List.mem_cons.1 h with rfl | h
        · simp
        · have := ih p h; simp; omega
      · rw [if_neg e] at h
        simp only [List.headD_cons, List.tail_cons, List.mem_cons] at h
        rcases h with rfl | h
        · have := ih q (by simp); simp; omega
        · have := ih p (by simp [h]); simp; omega
theorem cutAll_mem {c y : UInt8} : ∀ {L : List UInt8}, y ∈ L → y = c ∨ ∃ p ∈ cutAll c L, y ∈ p
  | [], h => by cases h
  | x :: L, h => by
    unfold cutAll
    have ih := cutAll_mem (c := c) (y := y) (L := L)
    have hne := cutAll_ne c L
    generalize cutAll c L = Q at *
    match Q, hne with
    | q :: qs, _ =>
      by_cases e : x = c
      · rw [if_pos e]
        rcases List.mem_cons.1 h with h | h
        · exact .inl (h.trans e)
        · rcases ih h with h | ⟨p, hp, hy⟩
          · exact .inl h
          · exact .inr ⟨p, List.mem_cons_of_mem _ hp, hy⟩
      · rw [if_neg e]
        simp only [List.headD_cons, List.tail_cons]
        rcases List.mem_cons.1 h with h | h
        · exact .inr ⟨x :: q, by simp, by simp [h]⟩
        · rcases ih h with h | ⟨p, hp, hy⟩
          · exact .inl h
          · rcases List.mem_cons.1 hp with rfl | hp
            · exact .inr ⟨x :: p, by simp, List.mem_cons_of_mem _ hy⟩
            · exact .inr ⟨p, List.mem_cons_of_mem _ hp, hy⟩
/-- Whether a text is a path is told; one has a byte at least, up to 200, and no blank. -/
theorem path_ev (s : ByteArray) : ∃ b K, (∀ k, K ≤ k → asset_isPath.f k s = some b) ∧ (b = true → s.size ≤ 200 ∧ lst s ≠ [] ∧ ∀ x ∈ lst s, Pl x) := by
  have lift : ∀ k b, tree_isPath.f k s = some b → asset_isPath.f k s = some b := by
    intro k b h
    unfold asset_isPath.f tree_CheckPath.f
    rw [h, Option.bind_some]
    cases b <;> rfl
  by_cases h : (s.size : Int) > 200
  · exact ⟨false, 0, fun k _ => lift k _ (by unfold tree_isPath.f; rw [if_pos h]), fun h => by cases h⟩
  · have hsp : strings_Split.f s (⟨#[47]⟩ : ByteArray) = some (cutB 47 s) := by
      unfold strings_Split.f; rw [if_pos ⟨rfl, by omega⟩]; rfl
    have hlen : (cutB 47 s).length ≤ 201 := by
      rw [cutB_len]; have := countByte_le s.data.toList 47; have := Lib.size_eq s; omega
    have hall : ∀ p ∈ cutB 47 s, p.size ≤ 200 := by
      intro p hp
      unfold cutB at hp
      obtain ⟨q, hq, rfl⟩ := List.mem_map.1 hp
      have := cutAll_sz q hq
      have h2 := Lib.size_eq s
      rw [← lst_len, lst_mk]; omega
    obtain ⟨b, hb, hb2⟩ := path_loop (cutB 47 s) 200 (by omega) (by omega) hall (cutB 47 s).length 0 (by omega)
    refine ⟨b, (cutB 47 s).length + 200 + 3, fun k hk => lift k _ ?_, fun h => ⟨by omega, ?_, fun x hx => ?_⟩⟩
    · obtain ⟨j, rfl⟩ : ∃ j, k = (cutB 47 s).length + 200 + 3 + j := ⟨k - ((cutB 47 s).length + 200 + 3), by omega⟩
      unfold tree_isPath.f
      rw [if_neg (by assumption), hsp, Option.bind_some]
      exact hb j
    · intro e
      have hm2 : (⟨([] : List UInt8).toArray⟩ : ByteArray) ∈ cutB 47 s := by
        unfold cutB
        exact List.mem_map.2 ⟨[], by rw [show s.data.toList = [] from e]; simp [cutAll], rfl⟩
      obtain ⟨j, hj, e2⟩ := List.mem_iff_getElem.1 hm2
      exact (hb2 h j hj (by omega)).1 (by rw [e2]; rfl)
    · rcases cutAll_mem (c := 47) hx with rfl | ⟨p, hp, hy⟩
      · exact ⟨by decide, by decide⟩
      · have hm2 : (⟨p.toArray⟩ : ByteArray) ∈ cutB 47 s := by
          unfold cutB
          exact List.mem_map.2 ⟨_, hp, rfl⟩
        obtain ⟨j, hj, e2⟩ := List.mem_iff_getElem.1 hm2
        exact (hb2 h j hj (by omega)).2 x (by rw [e2]; exact hy)
/-! The parts' paths: told; if nothing is wrong, each is a path. -/
def Good (p : ByteArray) : Prop := p.size ≤ 200 ∧ lst p ≠ [] ∧ ∀ x ∈ lst p, Pl x
theorem pf_inner (l : List ByteArray) (i : Nat) (hi : i < l.length) (hn : l.length ≤ 1000) (p : ByteArray) (e : Int) (K : Nat) (he : ∀ k, K ≤ k → asset_partsFault.l0 k l l (l.length : Int) ((i + 1 : Nat) : Int) = some e) :
    ∀ d j : Nat, j + d = i → ∃ e', (∀ k, K + d + 1 ≤ k → asset_partsFault.l1 k l p l (l.length : Int) (i : Int) (l.take i) ((l.take i).length : Int) (j : Int) = some e') ∧ (e' = 0 → e = 0) := by
  have hl : (l.take i).length = i := by simp; omega
  have hw : wrap64 ((i : Int) + 1) = ((i + 1 : Nat) : Int) := by rw [w64 (by omega) (by omega)]; omega
  intro d
  induction d with
  | zero =>
    intro j hj
    refine ⟨e, fun k hk => ?_, id⟩
    obtain ⟨k, rfl⟩ : ∃ j, k = j + 1 := ⟨k - 1, by omega⟩
    rw [asset_partsFault.l1, if_neg (by omega), hw]
    exact he k (by omega)
  | succ d ih =>
    intro j hj
    obtain ⟨e', h1, h2⟩ := ih (j + 1) (by omega)
    have hw2 : wrap64 ((j : Int) + 1) = ((j + 1 : Nat) : Int) := by rw [w64 (by omega) (by omega)]; omega
    by_cases hc : p.toList = (rdOf ByteArray.empty (l.take i) (j : Int)).toList
    · refine ⟨6, fun k hk => ?_, fun h => by cases h⟩
      obtain ⟨k, rfl⟩ : ∃ j, k = j + 1 := ⟨k - 1, by omega⟩
      rw [asset_partsFault.l1, if_pos (by omega), if_pos (by omega), if_pos (by omega), if_pos hc]
    · refine ⟨e', fun k hk => ?_, h2⟩
      obtain ⟨k, rfl⟩ : ∃ j, k = j + 1 := ⟨k - 1, by omega⟩
      rw [asset_partsFault.l1, if_pos (by omega), if_pos (by omega), if_pos (by omega), if_neg hc, hw2]
      exact h1 k (by omega)
theorem pf_outer (l : List ByteArray) (hn : l.length ≤ 1000) : ∀ d i : Nat, i + d = l.length → ∃ e K, (∀ k, K ≤ k → asset_partsFault.l0 k l l (l.length : Int) (i : Int) = some e) ∧ (e = 0 → ∀ j (h : j < l.length), i ≤ j → Good l[j]) := by
  intro d
  induction d with
  | zero =>
    intro i hi
    refine ⟨0, 1, fun k hk => ?_, fun _ j h hj => by omega⟩
    obtain ⟨k, rfl⟩ : ∃ j, k = j + 1 := ⟨k - 1, by omega⟩
    rw [asset_partsFault.l0, if_neg (by omega)]
  | succ d ih =>
    intro i hi
    have hlt : i < l.length := by omega
    obtain ⟨e, K, he, hg⟩ := ih (i + 1) (by omega)
    obtain ⟨b, Kb, hb, hbg⟩ := path_ev l[i]
    obtain ⟨e', h1, h2⟩ := pf_inner l i hlt hn l[i] e K he i 0 (by omega)
    cases b with
    | true =>
      refine ⟨e', Kb + K + i + 2, fun k hk => ?_, fun h0 j hj hij => ?_⟩
      · obtain ⟨k, rfl⟩ : ∃ j, k = j + 1 := ⟨k - 1, by omega⟩
        rw [asset_partsFault.l0, if_pos (by omega), if_pos (by omega), if_pos (by omega), rdOf_at hlt, hb k (by omega), Option.bind_some, if_pos rfl, if_pos (by omega), Int.toNat_natCast]
        exact h1 k (by omega)
      · by_cases hji : j = i
        · subst hji; exact hbg rfl
        · exact hg (h2 h0) j hj (by omega)
    | false =>
      refine ⟨3, Kb + 1, fun k hk => ?_, fun h => by cases h⟩
      obtain ⟨k, rfl⟩ : ∃ j, k = j + 1 := ⟨k - 1, by omega⟩
      rw [asset_partsFault.l0, if_pos (by omega), if_pos (by omega), if_pos (by omega), rdOf_at hlt, hb k (by omega), Option.bind_some, if_neg (by simp)]
theorem pf_ev (l : List ByteArray) (hn : l.length ≤ 1000) : ∃ e K, (∀ k, K ≤ k → asset_partsFault.f k l = some e) ∧ (e = 0 → ∀ p ∈ l, Good p) := by
  obtain ⟨e, K, h1, h2⟩ := pf_outer l hn l.length 0 (by omega)
  refine ⟨e, K, fun k hk => ?_, fun h0 p hp => ?_⟩
  · unfold asset_partsFault.f
    exact h1 k hk
  · obtain ⟨j, hj, rfl⟩ := List.mem_iff_getElem.1 hp
    exact h2 h0 j hj (by omega)
/-! Numbers in base 32. -/
def D32 : ByteArray := ⟨#[48, 49, 50, 51, 52, 53, 54, 55, 56, 57, 97, 98, 99, 100, 101, 102, 103, 104, 105, 106, 107, 108, 109, 110, 111, 112, 113, 114, 115, 116, 117, 118]⟩
/-- the digit of n, and what it is read as -/
theorem d32_fin : ∀ j : Fin 32, ∃ c : UInt8, lst (D32.extract j.val (j.val + 1)) = [c] ∧ Lib.indexByte (lst D32) c = (j.val : Int) ∧ (c ≠ 32 ∧ c ≠ 10) ∧ (c = 48 ↔ j.val = 0) :=
  fun i => ⟨(lst D32)[i.val]'(by have := i.isLt; simp [lst, D32]), by revert i; decide +kernel⟩
def dix (c : UInt8) : Nat := (Lib.indexByte (lst D32) c).toNat
def val (a : Nat) : List UInt8 → Nat
  | [] => a
  | c :: P => val (32 * a + dix c) P
def Dg (c : UInt8) : Prop := Lib.indexByte (lst D32) c = (dix c : Int) ∧ dix c < 32 ∧ Pl c
theorem val_app (P : List UInt8) (c : UInt8) : ∀ a, val a (P ++ [c]) = 32 * val a P + dix c := by
  induction P with
  | nil => intro a; rfl
  | cons x P ih => intro a; exact ih _
theorem val_ge : ∀ (P : List UInt8) (a : Nat), a ≤ val a P
  | [], a => Nat.le_refl a
  | c :: P, a => by
    have := val_ge P (32 * a + dix c)
    show a ≤ val (32 * a + dix c) P
    omega
theorem dg_of (j : Nat) (h : j < 32) : ∃ c : UInt8, lst (D32.extract j (j + 1)) = [c] ∧ Dg c ∧ dix c = j ∧ (c = 48 ↔ j = 0) := by
  obtain ⟨c, h1, h2, h3, h4⟩ := d32_fin ⟨j, h⟩
  have e : dix c = j := by unfold dix; rw [h2]; rfl
  exact ⟨c, h1, ⟨by rw [e]; exact h2, by omega, h3⟩, e, h4⟩
theorem base_cut (n : Nat) (hn : n ≤ 1000000) : Int.tmod (n : Int) 32 = ((n % 32 : Nat) : Int) ∧ Int.tdiv (n : Int) 32 = ((n / 32 : Nat) : Int) ∧ wrap64 (Int.tdiv (n : Int) 32) = ((n / 32 : Nat) : Int) ∧ wrap64 (((n % 32 : Nat) : Int) + 1) = ((n % 32 + 1 : Nat) : Int) := by
  have h1 : Int.tmod (n : Int) 32 = ((n % 32 : Nat) : Int) := by rw [Int.tmod_eq_emod_of_nonneg (by omega)]; omega
  have h2 : Int.tdiv (n : Int) 32 = ((n / 32 : Nat) : Int) := by rw [Int.tdiv_eq_ediv_of_nonneg (by omega)]; omega
  refine ⟨h1, h2, ?_, ?_⟩
  · rw [h2, w64 (by omega) (by omega)]
  · rw [w64 (by omega) (by omega)]; omega
theorem base_loop : ∀ m n : Nat, n < 32 ^ m → n ≤ 1000000 → ∀ x : ByteArray, x.size + m ≤ 1000 → ∃ r : ByteArray, ∃ P : List UInt8, (∀ k, m + 1 ≤ k → asset_base32.l0 k (n : Int) x = some r) ∧ lst r = P ++ lst x ∧ (∀ c ∈ P, Dg c) ∧ val 0 P = n ∧ P.length ≤ m ∧ (0 < n → ∃ c Q, P = c :: Q ∧ c ≠ 48) ∧ (n = 0 → P = [])
  | m, 0, _, _, x, _ => ⟨x, [], fun k hk => by
      obtain ⟨k, rfl⟩ : ∃ j, k = j + 1 := ⟨k - 1, by omega⟩
      rw [asset_base32.l0, if_neg (by omega)], rfl, (fun c h => by cases h), rfl, by simp, fun h => absurd h (by omega), fun _ => rfl⟩
  | 0, n + 1, h, _, _, _ => absurd h (by simp)
  | m + 1, n + 1, h, hn, x, hx => by
    obtain ⟨e1, e2, e3, e4⟩ := base_cut (n + 1) hn
    obtain ⟨c, hc1, hc2, hc3, hc4⟩ := dg_of ((n + 1) % 32) (Nat.mod_lt _ (by omega))
    have hsz : (D32.extract ((n + 1) % 32) ((n + 1) % 32 + 1)).size = 1 := by rw [← lst_len, hc1]; rfl
    obtain ⟨r, P, h1, h2, h3, h4, h5, h6, h7⟩ := base_loop m ((n + 1) / 32) (by rw [Nat.pow_succ] at h; omega) (by omega) (D32.extract ((n + 1) % 32) ((n + 1) % 32 + 1) ++ x) (by rw [ByteArray.size_append, hsz]; omega)
    refine ⟨r, P ++ [c], fun k hk => ?_, ?_, fun d hd => ?_, ?_, ?_, fun _ => ?_, fun h => by omega⟩
    · obtain ⟨k, rfl⟩ : ∃ j, k = j + 1 := ⟨k - 1, by omega⟩
      have hD : (⟨#[48, 49, 50, 51, 52, 53, 54, 55, 56, 57, 97, 98, 99, 100, 101, 102, 103, 104, 105, 106, 107, 108, 109, 110, 111, 112, 113, 114, 115, 116, 117, 118]⟩ : ByteArray) = D32 := rfl
      have hm : (n + 1) % 32 < 32 := Nat.mod_lt _ (by omega)
      rw [asset_base32.l0, if_pos (by omega), e1, e3, e4, hD, Int.toNat_natCast, Int.toNat_natCast, if_pos (by omega), if_pos (by omega), if_pos (by omega), if_pos (by rw [hsz]; omega)]
      exact h1 k (by omega)
    · rw [h2, lst_app, hc1, List.append_assoc]
    · rcases List.mem_append.1 hd with hd | hd
      · exact h3 d hd
      · rw [List.mem_singleton.1 hd]; exact hc2
    · rw [val_app, h4, hc3]; omega
    · rw [List.length_append, List.length_singleton]; omega
    · rcases Nat.eq_zero_or_pos ((n + 1) / 32) with h0 | h0
      · rw [h7 h0]
        exact ⟨c, [], rfl, fun h => by have := hc4.1 h; omega⟩
      · obtain ⟨d, Q, e, hd⟩ := h6 h0
        exact ⟨d, Q ++ [c], by rw [e]; rfl, hd⟩
theorem base_ev (n : Nat) (hn : n ≤ 400000) : ∃ r : ByteArray, (∀ k, 5 ≤ k → asset_base32.f k (n : Int) = some r) ∧ (∀ c ∈ lst r, Dg c) ∧ val 0 (lst r) = n ∧ (lst r).length ≤ 4 ∧ ∃ c Q, lst r = c :: Q ∧ (c = 48 → Q = []) := by
  obtain ⟨e1, e2, e3, e4⟩ := base_cut n (by omega)
  obtain ⟨c, hc1, hc2, hc3, hc4⟩ := dg_of (n % 32) (Nat.mod_lt _ (by omega))
  have hsz : (D32.extract (n % 32) (n % 32 + 1)).size = 1 := by rw [← lst_len, hc1]; rfl
  obtain ⟨r, P, h1, h2, h3, h4, h5, h6, h7⟩ := base_loop 3 (n / 32) (by omega) (by omega) (D32.extract (n % 32) (n % 32 + 1)) (by rw [hsz]; omega)
  have hD : (⟨#[48, 49, 50, 51, 52, 53, 54, 55, 56, 57, 97, 98, 99, 100, 101, 102, 103, 104, 105, 106, 107, 108, 109, 110, 111, 112, 113, 114, 115, 116, 117, 118]⟩ : ByteArray) = D32 := rfl
  have hm : n % 32 < 32 := Nat.mod_lt _ (by omega)
  rw [hc1] at h2
  refine ⟨r, fun k hk => ?_, fun d hd => ?_, ?_, ?_, ?_⟩
  · unfold asset_base32.f
    rw [e1, e3, e4, hD, Int.toNat_natCast, Int.toNat_natCast, if_pos (by omega), if_pos (by omega), if_pos (by omega)]
    exact h1 k (by omega)
  · rw [h2] at hd
    rcases List.mem_append.1 hd with hd | hd
    · exact h3 d hd
    · rw [List.mem_singleton.1 hd]; exact hc2
  · rw [h2, val_app, h4, hc3]; omega
  · rw [h2, List.length_append, List.length_singleton]; omega
  · rw [h2]
    rcases Nat.eq_zero_or_pos (n / 32) with h0 | h0
    · rw [h7 h0]
      exact ⟨c, [], rfl, fun _ => rfl⟩
    · obtain ⟨d, Q, e, hd⟩ := h6 h0
      exact ⟨d, Q ++ [c], by rw [e]; rfl, fun h => absurd h hd⟩
theorem read_loop (a : ByteArray) (n : Nat) (hn : n ≤ 400000) (ha : (lst a).length ≤ 1000) (hd : ∀ c ∈ lst a, Dg c) : ∀ d i acc : Nat, i + d = (lst a).length → val acc ((lst a).drop i) = n → ∀ k, d + 1 ≤ k → asset_read32.l0 k a (acc : Int) (i : Int) = some ((n : Int), true) := by
  have hs := lst_len a
  intro d
  induction d with
  | zero =>
    intro i acc hi hv k hk
    obtain ⟨k, rfl⟩ : ∃ j, k = j + 1 := ⟨k - 1, by omega⟩
    rw [List.drop_eq_nil_of_le (by omega)] at hv
    rw [asset_read32.l0, if_neg (by omega), show (acc : Int) = (n : Int) from congrArg Int.ofNat hv]
  | succ d ih =>
    intro i acc hi hv k hk
    obtain ⟨k, rfl⟩ : ∃ j, k = j + 1 := ⟨k - 1, by omega⟩
    have hlt : i < (lst a).length := by omega
    rw [List.drop_eq_getElem_cons hlt] at hv
    have hg := hd _ (List.getElem_mem hlt)
    have hge := val_ge ((lst a).drop (i + 1)) (32 * acc + dix (lst a)[i])
    have hv' : val (32 * acc + dix (lst a)[i]) ((lst a).drop (i + 1)) = n := hv
    obtain ⟨g1, g2, g3⟩ := hg
    have hix : strings_IndexByte.f (⟨#[48, 49, 50, 51, 52, 53, 54, 55, 56, 57, 97, 98, 99, 100, 101, 102, 103, 104, 105, 106, 107, 108, 109, 110, 111, 112, 113, 114, 115, 116, 117, 118]⟩ : ByteArray) (bt a (i : Int)) = some ((dix (lst a)[i] : Nat) : Int) := by
      unfold strings_IndexByte.f
      rw [bt_lst hlt, u8_of]
      exact congrArg some g1
    have hmn : mn ((32 * acc + dix (lst a)[i] : Nat) : Int) 400000 = ((32 * acc + dix (lst a)[i] : Nat) : Int) := by unfold mn; rw [if_neg (by omega)]
    have hw : Aside0 (wrap64 (wrap64 (32 * (acc : Int)) + ((dix (lst a)[i] : Nat) : Int)) = ((32 * acc + dix (lst a)[i] : Nat) : Int)) := by
      constructor
      rw [w64 (n := 32 * (acc : Int)) (by omega) (by omega), w64 (by omega) (by omega)]; omega
    have hw2 : Aside0 (wrap64 ((i : Int) + 1) = ((i + 1 : Nat) : Int)) := by constructor; rw [w64 (by omega) (by omega)]; omega
    rw [asset_read32.l0, if_pos (by omega), if_pos (by omega), hix, Option.bind_some, if_neg (by omega), hw.out, hmn, hw2.out]
    exact ih (i + 1) _ (by omega) hv' k (by omega)
theorem read_ev (a : ByteArray) (n : Nat) (hn : n ≤ 400000) (hl : (lst a).length ≤ 4) (hd : ∀ c ∈ lst a, Dg c) (hv : val 0 (lst a) = n) (hh : ∃ c Q, lst a = c :: Q ∧ (c = 48 → Q = [])) : ∀ k, 6 ≤ k → asset_read32.f k a = some ((n : Int), true) := by
  intro k hk
  obtain ⟨k, rfl⟩ : ∃ j, k = j + 1 := ⟨k - 1, by omega⟩
  obtain ⟨c, Q, e, hq⟩ := hh
  have hlen : (lst a).length = Q.length + 1 := by rw [e]; rfl
  have hs := lst_len a
  have h0 : 0 < (lst a).length := by omega
  have hL := read_loop a n hn (by omega) hd (lst a).length 0 0 (by omega) (by simpa using hv) k (by omega)
  have hb : bt a ((0 : Nat) : Int) = (((lst a)[0]).toNat : Int) := bt_lst h0
  have hc : (lst a)[0] = c := by simp [e]
  unfold asset_read32.f
  rw [lst_tl, if_neg (by rw [e]; simp), if_pos (by omega)]
  have j0 : asset_read32.j0 (k + 1) a false = some ((n : Int), true) := by
    rw [asset_read32.j0, if_neg (by simp)]; exact hL
  by_cases h48 : bt a 0 = 48
  · rw [if_pos h48]
    have hc48 : c = 48 := by
      rw [← hc]
      have h2 : (((lst a)[0]).toNat : Int) = ((48 : UInt8).toNat : Int) := by rw [← hb]; exact h48
      exact u8_eq.1 h2
    rw [show (lst a != ([48] : List UInt8)) = false by rw [e, hq hc48, hc48]; rfl]
    exact j0
  · rw [if_neg h48]; exact j0
end Go.Proofs.YthagabjcoknogaaDoor.Pure
