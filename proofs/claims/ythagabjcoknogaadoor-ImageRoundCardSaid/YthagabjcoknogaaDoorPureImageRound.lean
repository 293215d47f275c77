/- An image that ImageString writes is read back by ReadImage, for every image; no condition. -/
import Derived.Test.YthagabjcoknogaaDoorPImageRoundx4
import Derived.Test.YthagabjcoknogaaDoorBytes
namespace Go.Proofs.YthagabjcoknogaaDoor.Pure
open Go.RowKit Go.Proofs.YthagabjcoknogaaDoor.PImageRound Go.Proofs.YthagabjcoknogaaDoorW.PrintWords Go.Proofs.YthagabjcoknogaaDoorW.PrintLast Go.Proofs.YthagabjcoknogaaDoorW.PrintMore
set_option linter.unusedVariables false
set_option linter.unusedSimpArgs false
theorem mulb {a b A B : Int} (h0 : 0 ≤ a) (h0' : a ≤ A) (h1 : 0 ≤ b) (h1' : b ≤ B) : 0 ≤ a * b ∧ a * b ≤ A * B :=
  ⟨Int.mul_nonneg h0 h1, Int.mul_le_mul h0' h1' h1 (by omega)⟩
theorem m64 {a b : Int} (h0 : 0 ≤ a) (h0' : a ≤ 65) (h1 : 0 ≤ b) (h1' : b ≤ 65) : 0 ≤ a * b ∧ a * b ≤ 4225 := mulb h0 h0' h1 h1'

theorem side_eq (a : Int) : asset_isSide.f a = some (decide (1 ≤ a ∧ a ≤ 64)) := by
  unfold asset_isSide.f
  by_cases h : a ≥ 1
  · rw [if_pos h]; congr 1; apply decide_eq_decide.2; omega
  · rw [if_neg h]; congr 1; symm; apply decide_eq_false; omega

/-! CheckImage -/
def Right (W H : Int) (L : List Int) : Prop := (1 ≤ W ∧ W ≤ 64) ∧ (1 ≤ H ∧ H ≤ 64) ∧ (L.length : Int) = W * H ∧ ∀ x ∈ L, 0 ≤ x ∧ x ≤ 15
theorem rd_mem {L : List Int} {i : Int} (h0 : 0 ≤ i) (h1 : i < L.length) : rd L i ∈ L := by
  unfold rd
  rw [List.getD_eq_getElem?_getD, List.getElem?_eq_getElem (by omega), Option.getD_some]
  exact List.getElem_mem _
theorem check_loop (L : List Int) (hn : (L.length : Int) ≤ 4225) : ∀ d : Nat, ∀ i : Int, 0 ≤ i → i ≤ L.length → (L.length : Int) - i = d →
    ∃ e, (∀ k, asset_CheckImage.l0 (d + 1 + k) L L.length i = some e) ∧ (e = 0 ↔ ∀ j : Int, i ≤ j → j < L.length → 0 ≤ rd L j ∧ rd L j ≤ 15) := by
  intro d
  induction d with
  | zero =>
    intro i h0 h1 hd
    refine ⟨0, fun k => ?_, by simp; intro j hj hj2; omega⟩
    rw [show 0 + 1 + k = k + 1 by omega]
    simp only [asset_CheckImage.l0]; rw [if_neg (by omega)]
  | succ d ih =>
    intro i h0 h1 hd
    have hlt : i < (L.length : Int) := by omega
    by_cases hc : 0 ≤ rd L i ∧ rd L i ≤ 15
    · obtain ⟨e, he, hiff⟩ := ih (i + 1) (by omega) (by omega) (by omega)
      refine ⟨e, fun k => ?_, hiff.trans ⟨fun H j hj hj2 => ?_, fun H j hj hj2 => H j (by omega) hj2⟩⟩
      · rw [show d + 1 + 1 + k = (d + 1 + k) + 1 by omega]
        simp only [asset_CheckImage.l0]; rw [if_pos hlt, if_pos h0, if_pos hlt, if_neg (by omega), if_neg (by omega), w64 (by omega) (by omega)]; exact he k
      · by_cases h : j = i
        · rw [h]; exact hc
        · exact H j (by omega) hj2
    · refine ⟨2, fun k => ?_, by constructor; · intro h; cases h
                                 · intro H; exact absurd (H i (by omega) hlt) hc⟩
      rw [show d + 1 + 1 + k = (d + 1 + k) + 1 by omega]
      simp only [asset_CheckImage.l0]; rw [if_pos hlt, if_pos h0, if_pos hlt]
      by_cases h2 : rd L i < 0
      · rw [if_pos h2]
      · rw [if_neg h2, if_pos (by omega)]
theorem all_rd (L : List Int) : (∀ j : Int, 0 ≤ j → j < L.length → 0 ≤ rd L j ∧ rd L j ≤ 15) ↔ ∀ x ∈ L, 0 ≤ x ∧ x ≤ 15 := by
  constructor
  · intro H x hx
    obtain ⟨n, hn, rfl⟩ := List.mem_iff_getElem.1 hx
    have := H n (by omega) (by omega)
    rwa [show rd L (n : Int) = L[n] by unfold rd; simp [List.getD_eq_getElem?_getD, hn]] at this
  · intro H j h0 h1
    exact H _ (rd_mem h0 h1)
theorem check_at (W H : Int) (L : List Int) : ∃ e, Ev (fun k => asset_CheckImage.f k W H L) e ∧ (e = 0 ↔ Right W H L) := by
  unfold Right
  by_cases h1 : 1 ≤ W ∧ W ≤ 64
  · by_cases h2 : 1 ≤ H ∧ H ≤ 64
    · have hm := m64 (a := W) (b := H) (by omega) (by omega) (by omega) (by omega)
      by_cases h3 : (L.length : Int) = W * H
      · obtain ⟨e, he, hiff⟩ := check_loop L (by omega) L.length 0 (by omega) (by omega) (by omega)
        refine ⟨e, ⟨L.length + 2, fun k hk => ?_⟩, ?_⟩
        · obtain ⟨j, rfl⟩ : ∃ j, k = (L.length + 1 + j) + 1 := ⟨k - L.length - 2, by omega⟩
          show asset_CheckImage.f _ W H L = _
          unfold asset_CheckImage.f
          rw [side_eq, decide_eq_true h1, Option.bind_some, if_pos rfl, side_eq, decide_eq_true h2, Option.bind_some]
          simp only [asset_CheckImage.j0]
          rw [if_neg (by simp), w64 (by omega) (by omega), if_pos h3]
          exact he j
        · rw [hiff]; have := all_rd L; constructor
          · intro H; exact ⟨h1, h2, h3, this.1 (fun j a b => H j a b)⟩
          · intro H j a b; exact this.2 H.2.2.2 j a b
      · refine ⟨1, ⟨1, fun k hk => ?_⟩, by constructor; · intro h; cases h
                                           · intro h; exact absurd h.2.2.1 h3⟩
        obtain ⟨j, rfl⟩ : ∃ j, k = j + 1 := ⟨k - 1, by omega⟩
        show asset_CheckImage.f _ W H L = _
        unfold asset_CheckImage.f
        rw [side_eq, decide_eq_true h1, Option.bind_some, if_pos rfl, side_eq, decide_eq_true h2, Option.bind_some]
        simp only [asset_CheckImage.j0]
        rw [if_neg (by simp), w64 (by omega) (by omega), if_neg h3]
    · refine ⟨2, ⟨1, fun k hk => ?_⟩, by constructor; · intro h; cases h
                                         · intro h; exact absurd h.2.1 h2⟩
      obtain ⟨j, rfl⟩ : ∃ j, k = j + 1 := ⟨k - 1, by omega⟩
      show asset_CheckImage.f _ W H L = _
      unfold asset_CheckImage.f
      rw [side_eq, decide_eq_true h1, Option.bind_some, if_pos rfl, side_eq, decide_eq_false h2, Option.bind_some]
      simp only [asset_CheckImage.j0]
      rw [if_pos (by simp)]
  · refine ⟨2, ⟨1, fun k hk => ?_⟩, by constructor; · intro h; cases h
                                       · intro h; exact absurd h.1 h1⟩
    obtain ⟨j, rfl⟩ : ∃ j, k = j + 1 := ⟨k - 1, by omega⟩
    show asset_CheckImage.f _ W H L = _
    unfold asset_CheckImage.f
    rw [side_eq, decide_eq_false h1, Option.bind_some, if_neg (by simp)]
    simp only [asset_CheckImage.j0]
    rw [if_pos trivial]

theorem equal_self (L : List Int) (hn : (L.length : Int) ≤ 5000) : ∀ d : Nat, ∀ i : Int, 0 ≤ i → i ≤ L.length → (L.length : Int) - i = d → ∀ k, slices_Equal_int_int.l0 (d + 1 + k) L L L.length i = some true := by
  intro d
  induction d with
  | zero =>
    intro i h0 h1 hd k
    rw [show 0 + 1 + k = k + 1 by omega, slices_Equal_int_int.l0, if_neg (by omega)]
  | succ d ih =>
    intro i h0 h1 hd k
    rw [show d + 1 + 1 + k = (d + 1 + k) + 1 by omega, slices_Equal_int_int.l0, if_pos (by omega), if_pos h0, if_pos (by omega), if_pos (by omega), if_pos rfl, w64 (by omega) (by omega)]
    exact ih (i + 1) (by omega) (by omega) (by omega) k

/-! the numerals of a side -/
theorem side_two {s : ByteArray} {a b : Nat} (h : lst s = [UInt8.ofNat (48 + a), UInt8.ofNat (48 + b)]) (ha : 1 ≤ a) (ha9 : a ≤ 9) (hb : b ≤ 9) : ∀ k, 5 ≤ k → asset_side.f k s = some (((10 * a + b : Nat) : Int), true) := by
  intro k hk
  have hsz : s.size = 2 := by rw [← lst_len, h]; rfl
  have b0 : bt s 0 = ((48 + a : Nat) : Int) := by
    have := bt_lst (s := s) (i := 0) (by rw [h]; simp)
    rw [show (0 : Int) = ((0 : Nat) : Int) from rfl, this]
    simp only [h, List.getElem_cons_zero, UInt8.toNat_ofNat']
    omega
  have b1 : bt s 1 = ((48 + b : Nat) : Int) := by
    have := bt_lst (s := s) (i := 1) (by rw [h]; simp)
    rw [show (1 : Int) = ((1 : Nat) : Int) from rfl, this]
    simp only [h, List.getElem_cons_succ, List.getElem_cons_zero, UInt8.toNat_ofNat']
    omega
  obtain ⟨j, rfl⟩ : ∃ j, k = j + 1 + 1 + 1 + 1 := ⟨k - 4, by omega⟩
  have dg : ∀ c : Int, 48 ≤ c → c ≤ 57 → asset_isDigit.f c = some true := fun c h1 h2 => by unfold asset_isDigit.f; rw [if_pos (by omega), decide_eq_true (by omega)]
  unfold asset_side.f
  rw [if_neg (by rw [lst_tl, h]; simp), if_neg (by omega), if_pos (by omega), b0, if_neg (by omega), asset_side.j0, if_neg (by simp), asset_side.l0, if_pos (by omega), if_pos (by omega), b0, dg _ (by omega) (by omega), Option.bind_some, if_pos rfl,
    w64 (n := 10 * 0) (by omega) (by omega), show (((48 + a : Nat) : Int) - 48) % 256 = (a : Int) by omega, w64 (n := 10 * 0 + (a : Int)) (by omega) (by omega), w64 (n := 0 + 1) (by omega) (by omega), asset_side.l0, if_pos (by omega), if_pos (by omega), show (0 : Int) + 1 = 1 from rfl, b1, dg _ (by omega) (by omega), Option.bind_some, if_pos rfl,
    w64 (n := 10 * (10 * 0 + (a : Int))) (by omega) (by omega), show (((48 + b : Nat) : Int) - 48) % 256 = (b : Int) by omega, w64 (by omega) (by omega), w64 (n := 1 + 1) (by omega) (by omega), asset_side.l0, if_neg (by omega)]
  congr 2; omega
theorem side_one {s : ByteArray} {a : Nat} (h : lst s = [UInt8.ofNat (48 + a)]) (ha : 1 ≤ a) (ha9 : a ≤ 9) : ∀ k, 5 ≤ k → asset_side.f k s = some ((a : Int), true) := by
  intro k hk
  have hsz : s.size = 1 := by rw [← lst_len, h]; rfl
  have b0 : bt s 0 = ((48 + a : Nat) : Int) := by
    have := bt_lst (s := s) (i := 0) (by rw [h]; simp)
    rw [show (0 : Int) = ((0 : Nat) : Int) from rfl, this]
    simp only [h, List.getElem_cons_zero, UInt8.toNat_ofNat']
    omega
  obtain ⟨j, rfl⟩ : ∃ j, k = j + 1 + 1 + 1 := ⟨k - 3, by omega⟩
  have dg : ∀ c : Int, 48 ≤ c → c ≤ 57 → asset_isDigit.f c = some true := fun c h1 h2 => by unfold asset_isDigit.f; rw [if_pos (by omega), decide_eq_true (by omega)]
  unfold asset_side.f
  rw [if_neg (by rw [lst_tl, h]; simp), if_neg (by omega), if_pos (by omega), b0, if_neg (by omega), asset_side.j0, if_neg (by simp), asset_side.l0, if_pos (by omega), if_pos (by omega), b0, dg _ (by omega) (by omega), Option.bind_some, if_pos rfl,
    w64 (n := 10 * 0) (by omega) (by omega), show (((48 + a : Nat) : Int) - 48) % 256 = (a : Int) by omega, w64 (n := 10 * 0 + (a : Int)) (by omega) (by omega), w64 (n := 0 + 1) (by omega) (by omega), asset_side.l0, if_neg (by omega)]
  congr 2; omega
/-- What Itoa writes of a side. -/
theorem itoa_at {W : Int} (hW : 1 ≤ W ∧ W ≤ 64) : ∃ s : ByteArray, strconv_Itoa_38.f W = some s ∧ s.size ≤ 2 ∧ (∀ b ∈ lst s, b ≠ 32 ∧ b ≠ 10) ∧ ∀ k, 5 ≤ k → asset_side.f k s = some (W, true) := by
  obtain ⟨n, rfl⟩ := Int.eq_ofNat_of_zero_le (show 0 ≤ W by omega)
  have hf : strconv_Itoa_38.f (n : Int) = some ⟨(Lib.decDigits n).toArray⟩ := by
    unfold strconv_Itoa_38.f strconv_Itoa_48.f strconv_FormatInt.f
    rw [if_pos ⟨rfl, by omega, by omega⟩]; rfl
  have hb : ∀ d : Nat, d ≤ 9 → UInt8.ofNat (48 + d) ≠ 32 ∧ UInt8.ofNat (48 + d) ≠ 10 := by
    intro d hd
    constructor <;> (intro e; have := congrArg UInt8.toNat e; simp only [UInt8.toNat_ofNat'] at this; revert this; simp; omega)
  by_cases h10 : n < 10
  · have hd : Lib.decDigits n = [UInt8.ofNat (48 + n)] := Lib.decDigits_one h10
    refine ⟨_, hf, ?_, ?_, side_one (a := n) (by rw [lst_mk, hd]) (by omega) (by omega)⟩
    · rw [← lst_len, lst_mk, hd]; simp
    · rw [lst_mk, hd]; intro b hbm; rw [List.mem_singleton.1 hbm]; exact hb n (by omega)
  · have hd : Lib.decDigits n = [UInt8.ofNat (48 + n / 10), UInt8.ofNat (48 + n % 10)] := Lib.decDigits_two h10 (by omega)
    have hs2 := side_two (s := ⟨(Lib.decDigits n).toArray⟩) (a := n / 10) (b := n % 10) (by rw [lst_mk, hd]) (by omega) (by omega) (by omega)
    rw [show 10 * (n / 10) + n % 10 = n by omega] at hs2
    refine ⟨_, hf, ?_, ?_, hs2⟩
    · rw [← lst_len, lst_mk, hd]; simp
    · rw [lst_mk, hd]; intro b hbm
      simp only [List.mem_cons, List.not_mem_nil, or_false] at hbm
      rcases hbm with rfl | rfl
      · exact hb _ (by omega)
      · exact hb _ (by omega)

/-! the body -/
theorem size_str (T : List Int) : (strOfNums T).size = T.length := by
  show (T.map _).toArray.size = _
  rw [List.size_toArray, List.length_map]
theorem bt_str {T : List Int} (hT : ∀ z ∈ T, 0 ≤ z ∧ z ≤ 255) {i : Nat} (h : i < T.length) : bt (strOfNums T) (i : Int) = T[i] := by
  unfold bt
  have hs : (i : Int).toNat < (strOfNums T).size := by rw [size_str]; simpa using h
  rw [dif_pos hs]
  have hz := hT T[i] (List.getElem_mem h)
  show (((strOfNums T).data[(i : Int).toNat]'_).toNat : Int) = T[i]
  simp only [strOfNums, List.getElem_toArray, List.getElem_map, Int.toNat_natCast, UInt8.toNat_ofNat']
  omega
theorem lst_str (T : List Int) : lst (strOfNums T) = T.map fun n => UInt8.ofNat n.toNat := rfl
theorem hex_fin : ∀ j : Fin 16, Lib.indexByte [48, 49, 50, 51, 52, 53, 54, 55, 56, 57, 97, 98, 99, 100, 101, 102] (im_hex (j.val : Int)).toNat.toUInt8 = (j.val : Int) := by decide
theorem hex_at {n : Int} (h0 : 0 ≤ n) (h1 : n ≤ 15) : strings_IndexByte.f (⟨#[48, 49, 50, 51, 52, 53, 54, 55, 56, 57, 97, 98, 99, 100, 101, 102]⟩ : ByteArray) (im_hex n) = some n := by
  obtain ⟨m, rfl⟩ := Int.eq_ofNat_of_zero_le h0
  exact congrArg some (hex_fin ⟨m, by omega⟩)
theorem out_range (W : Int) (L : List Int) : ∀ j, ∀ z ∈ im_out W L j, 0 ≤ z ∧ z ≤ 255
  | 0, z, h => by simp [im_out] at h
  | j + 1, z, h => by
    rw [im_out, List.mem_append, List.mem_cons] at h
    rcases h with h | rfl | h
    · exact out_range W L j z h
    · exact bt_range _ _
    · split at h
      · simp at h; omega
      · simp at h
theorem mod_nc (j w : Nat) : (((j : Int) + 1) % (w : Int) = 0) ↔ (j + 1) % w = 0 := by
  rw [show ((j : Int) + 1) = ((j + 1 : Nat) : Int) by omega, ← Int.natCast_emod]; omega
theorem out_len {w : Nat} (hw : 1 ≤ w) (L : List Int) : ∀ j, (im_out w L j).length = j + j / w
  | 0 => by simp [im_out]
  | j + 1 => by
    have ih := out_len hw L j
    have d1 := Nat.div_add_mod j w
    have d2 := Nat.div_add_mod (j + 1) w
    have m1 := Nat.mod_lt j hw
    have m2 := Nat.mod_lt (j + 1) hw
    rw [im_out, List.length_append, List.length_cons, ih]
    by_cases h : (j + 1) % w = 0
    · rw [if_pos ((mod_nc j w).2 h)]
      have : (j + 1) / w = j / w + 1 := by
        have e : w * ((j + 1) / w) = w * (j / w) + (j % w + 1) := by omega
        have : j % w + 1 = w := by
          rcases Nat.lt_or_ge (j % w + 1) w with h1 | h1
          · exfalso
            have : (j + 1) % w = j % w + 1 := by rw [show j + 1 = w * (j / w) + (j % w + 1) by omega, Nat.mul_add_mod, Nat.mod_eq_of_lt h1]
            omega
          · omega
        have e2 : w * ((j + 1) / w) = w * (j / w + 1) := by rw [Nat.mul_add, Nat.mul_one]; omega
        exact Nat.eq_of_mul_eq_mul_left hw e2
      simp; omega
    · rw [if_neg (fun h' => h ((mod_nc j w).1 h'))]
      have : (j + 1) / w = j / w := by
        have h1 : j % w + 1 < w := by
          rcases Nat.lt_or_ge (j % w + 1) w with h1 | h1
          · exact h1
          · exfalso; apply h
            rw [show j + 1 = w * (j / w) + w by omega, Nat.mul_add_mod, Nat.mod_self]
        have e : (j + 1) = (j % w + 1) + w * (j / w) := by omega
        rw [e, Nat.add_mul_div_left _ _ hw, Nat.div_eq_of_lt h1]; omega
      simp; omega
theorem out_pre (W : Int) (L : List Int) (j : Nat) : ∀ d, ∃ T, im_out W L (j + d) = im_out W L j ++ T
  | 0 => ⟨[], by simp⟩
  | d + 1 => by
    obtain ⟨T, hT⟩ := out_pre W L j d
    refine ⟨_, by rw [← Nat.add_assoc, im_out, hT, List.append_assoc]⟩
/-- The reader's loop over the lines. -/
theorem read_loop {w : Nat} {H : Int} {L : List Int} (hw : 1 ≤ w) (hw2 : w ≤ 64) (hl : L.length ≤ 4225) (hx : ∀ x ∈ L, 0 ≤ x ∧ x ≤ 15) : ∀ d j : Nat, j + d = L.length → ∃ n, ∀ k,
    asset_ReadImage.l0 (k + n) (strOfNums (im_out w L L.length)) w ((j + j / w : Nat) : Int) w H (L.take j) = asset_ReadImage.l0 k (strOfNums (im_out w L L.length)) w ((L.length + L.length / w : Nat) : Int) w H L := by
  intro d
  induction d with
  | zero =>
    intro j hj
    obtain rfl : j = L.length := by omega
    exact ⟨0, fun k => by rw [List.take_length]; rfl⟩
  | succ d ih =>
    intro j hj
    obtain ⟨n, hn⟩ := ih (j + 1) (by omega)
    have hjl : j < L.length := by omega
    obtain ⟨T, hT⟩ := out_pre w L (j + 1) d
    rw [show j + 1 + d = L.length by omega] at hT
    have hT2 : im_out w L L.length = im_out w L j ++ (im_hex (rd L j) :: ((if ((j : Int) + 1) % (w : Int) = 0 then [10] else []) ++ T)) := by
      rw [hT, im_out]; simp
    have hlen := out_len hw L j
    have htot := out_len hw L L.length
    have hsz := size_str (im_out w L L.length)
    have d1 := Nat.div_add_mod j w
    have m1 := Nat.mod_lt j hw
    have hdl : L.length / w ≤ L.length := Nat.div_le_self _ _
    have hdj : j / w ≤ j := Nat.div_le_self _ _
    have hr : 0 ≤ rd L j ∧ rd L j ≤ 15 := hx _ (rd_mem (by omega) (by omega))
    have htk : L.take j ++ [rd L j] = L.take (j + 1) := by
      rw [List.take_succ_eq_append_getElem hjl]
      congr 2
      unfold rd
      simp [List.getD_eq_getElem?_getD, hjl]
    have hlt : j + j / w < (im_out w L L.length).length := by rw [hT2]; simp [hlen]
    have hb : bt (strOfNums (im_out w L L.length)) ((j + j / w : Nat) : Int) = im_hex (rd L j) := by
      rw [bt_str (out_range w L _) hlt]
      simp only [hT2]
      rw [List.getElem_append_right (by omega)]
      simp [hlen]
    have e0 : j + j / w = (w + 1) * (j / w) + j % w := by rw [Nat.add_mul, Nat.one_mul]; omega
    have hm := Aside0.mk (show Int.tmod ((j + j / w : Nat) : Int) (wrap64 ((w : Int) + 1)) = ((j % w : Nat) : Int) by
      rw [w64 (by omega) (by omega), Int.tmod_eq_emod_of_nonneg (by omega), show ((w : Int) + 1) = ((w + 1 : Nat) : Int) by omega, ← Int.natCast_emod, e0, Nat.mul_add_mod, Nat.mod_eq_of_lt (by omega)])
    have hwz := Aside0.mk (show ¬ wrap64 ((w : Int) + 1) = 0 by rw [w64 (by omega) (by omega)]; omega)
    have htl : (L.take j).length < 17592186044416 := by rw [List.length_take]; omega
    have step1 : ∀ k, asset_ReadImage.l0 (k + 1) (strOfNums (im_out w L L.length)) w ((j + j / w : Nat) : Int) w H (L.take j) = asset_ReadImage.l0 k (strOfNums (im_out w L L.length)) w ((j + j / w + 1 : Nat) : Int) w H (L.take (j + 1)) := by
      intro k
      rw [asset_ReadImage.l0, if_pos (by rw [hsz]; omega), if_neg hwz.out, hm.out, if_neg (by omega), if_pos (by omega), hb, hex_at hr.1 hr.2, Option.bind_some, if_neg (by omega), if_pos htl, htk, w64 (by omega) (by omega)]
      rfl
    by_cases h : (j + 1) % w = 0
    · -- the line's end
      have hq : j % w + 1 = w := by
        rcases Nat.lt_or_ge (j % w + 1) w with h1 | h1
        · exfalso
          have : (j + 1) % w = j % w + 1 := by rw [show j + 1 = w * (j / w) + (j % w + 1) by omega, Nat.mul_add_mod, Nat.mod_eq_of_lt h1]
          omega
        · omega
      have hlt2 : j + j / w + 1 < (im_out w L L.length).length := by rw [hT2, if_pos ((mod_nc j w).2 h)]; simp [hlen]
      have hb2 : bt (strOfNums (im_out w L L.length)) ((j + j / w + 1 : Nat) : Int) = 10 := by
        rw [bt_str (out_range w L _) hlt2]
        simp only [hT2, if_pos ((mod_nc j w).2 h)]
        rw [List.getElem_append_right (by omega)]
        simp [hlen]
      have hnext : (j + 1) + (j + 1) / w = j + j / w + 2 := by
        have e1 := out_len hw L (j + 1)
        rw [im_out, if_pos ((mod_nc j w).2 h)] at e1
        simp [hlen] at e1; omega
      have hm2 := Aside0.mk (show Int.tmod ((j + j / w + 1 : Nat) : Int) (wrap64 ((w : Int) + 1)) = (w : Int) by
        rw [w64 (by omega) (by omega), Int.tmod_eq_emod_of_nonneg (by omega), show ((w : Int) + 1) = ((w + 1 : Nat) : Int) by omega, ← Int.natCast_emod, show j + j / w + 1 = (w + 1) * (j / w) + w by omega, Nat.mul_add_mod, Nat.mod_eq_of_lt (by omega)])
      refine ⟨n + 2, fun k => ?_⟩
      rw [show k + (n + 2) = (k + n + 1) + 1 by omega, step1, asset_ReadImage.l0, if_pos (by rw [hsz]; omega), if_neg hwz.out, hm2.out, if_pos rfl, if_pos (by omega), hb2, if_pos rfl, w64 (by omega) (by omega), ← hn k, hnext]
      rfl
    · have hnext : (j + 1) + (j + 1) / w = j + j / w + 1 := by
        have e1 := out_len hw L (j + 1)
        rw [im_out, if_neg (fun h' => h ((mod_nc j w).1 h'))] at e1
        simp [hlen] at e1; omega
      refine ⟨n + 1, fun k => ?_⟩
      rw [show k + (n + 1) = (k + n) + 1 by omega, step1, ← hn k, hnext]

/-! the head -/
theorem cut_cons {c : UInt8} {A B : List UInt8} (h : c ∉ A) : cutAll c (A ++ c :: B) = A :: cutAll c B := by
  obtain ⟨_, e⟩ := cutAll_hit (c := c) (l := A ++ c :: B) (i := A.length) (index_first h)
  rw [e, List.take_left, show A.length + 1 = (A ++ [c]).length by simp, show A ++ c :: B = (A ++ [c]) ++ B by simp, List.drop_left]
theorem ImageRound (W H : Int) (L : List Int) : ∃ k, mastkeep2_ImageRound.f k W H L = some true := by
  obtain ⟨c, ⟨K1, hc⟩, hiff⟩ := check_at W H L
  replace hc : ∀ k, K1 ≤ k → asset_CheckImage.f k W H L = some c := hc
  by_cases hR : Right W H L
  · obtain rfl := hiff.2 hR
    obtain ⟨sW, sH, hL, hall⟩ := id hR
    obtain ⟨tW, hW, zW, nW, eW⟩ := itoa_at sW
    obtain ⟨tH, hH, zH, nH, eH⟩ := itoa_at sH
    have hS := m64 (a := W) (b := H) (by omega) (by omega) (by omega) (by omega)
    obtain ⟨w, rfl⟩ := Int.eq_ofNat_of_zero_le (show 0 ≤ W by omega)
    obtain ⟨h, rfl⟩ := Int.eq_ofNat_of_zero_le (show 0 ≤ H by omega)
    have hLn : L.length = w * h := by
      have : (L.length : Int) = ((w * h : Nat) : Int) := by rw [hL, Int.natCast_mul]
      omega
    have hdiv : L.length / w = h := by rw [hLn, Nat.mul_div_cancel_left _ (by omega)]
    have hlen := out_len (w := w) (by omega) L L.length
    rw [hdiv] at hlen
    -- the text
    obtain ⟨S, hSdef⟩ : ∃ S, strOfNums ((im_head tW tH).data.toList.map (fun c => (c.toNat : Int)) ++ im_out w L L.length) = S := ⟨_, rfl⟩
    have hf : ∀ k, K1 ≤ k → asset_ImageString.f k w h L = some (S, 0) := by
      intro k hk
      unfold asset_ImageString.f
      rw [hc k hk, Option.bind_some, if_pos rfl, hW, Option.bind_some, hH, Option.bind_some, if_pos ⟨by omega, by omega, by omega, hall, by omega, by omega⟩, hSdef]
    have hline : lst (im_head tW tH) = ([105, 109, 97, 103, 101] ++ 32 :: (lst tW ++ 32 :: lst tH)) ++ [10] := by
      unfold im_head
      rw [lst_app, lst_app, lst_app, lst_app]
      show (([105, 109, 97, 103, 101, 32] ++ lst tW ++ [32]) ++ lst tH) ++ [10] = _
      simp
    have hlS : lst S = ([105, 109, 97, 103, 101] ++ 32 :: (lst tW ++ 32 :: lst tH)) ++ 10 :: (im_out w L L.length).map fun n => UInt8.ofNat n.toNat := by
      rw [← hSdef, lst_str, List.map_append]
      have : ((im_head tW tH).data.toList.map (fun c => (c.toNat : Int))).map (fun n => UInt8.ofNat n.toNat) = lst (im_head tW tH) := by
        rw [List.map_map]
        show _ = (im_head tW tH).data.toList
        conv => rhs; rw [← List.map_id (im_head tW tH).data.toList]
        apply List.map_congr_left; intro a _; simp
      rw [this, hline]; simp
    have n10 : (10 : UInt8) ∉ ([105, 109, 97, 103, 101] ++ 32 :: (lst tW ++ 32 :: lst tH) : List UInt8) := by
      simp only [List.mem_append, List.mem_cons, List.not_mem_nil, or_false, not_or]
      refine ⟨by decide, by decide, fun hm => (nW _ hm).2 rfl, by decide, fun hm => (nH _ hm).2 rfl⟩
    obtain ⟨line, hlline⟩ : ∃ line : ByteArray, lst line = [105, 109, 97, 103, 101] ++ 32 :: (lst tW ++ 32 :: lst tH) := ⟨⟨_⟩, lst_mk _⟩
    have hlsz : line.size ≤ 20 := by rw [← lst_len, hlline]; simp [lst_len]; omega
    have hcut : strings_Cut.f S (⟨#[10]⟩ : ByteArray) = some (line, strOfNums (im_out w L L.length), true) := by
      have hidx : Lib.indexByte S.data.toList 10 = line.size := by
        show Lib.indexByte (lst S) 10 = _
        rw [hlS, index_first n10, ← hlline, lst_len]
      have hSs : S.size ≤ 1000000 := by rw [← hSdef, size_str, List.length_append, List.length_map, hlen]; have := lst_len (im_head tW tH); rw [hline] at this; simp [lst_len] at this; show (lst (im_head tW tH)).length + _ ≤ _; rw [lst_len]; omega
      unfold strings_Cut.f
      show (if (1 = 1 ∧ S.size ≤ 1000000000000) then (if Lib.indexByte S.data.toList 10 < 0 then _ else some (S.extract 0 (Lib.indexByte S.data.toList 10).toNat, S.extract ((Lib.indexByte S.data.toList 10).toNat + 1) S.size, true)) else none) = _
      rw [if_pos ⟨rfl, by omega⟩, hidx, if_neg (by omega), Int.toNat_natCast]
      congr 1
      rw [Prod.mk.injEq, Prod.mk.injEq]
      refine ⟨lst_inj ?_, lst_inj ?_, rfl⟩
      · rw [lst_front, hlS, ← hlline, app_take (lst_len line)]
      · rw [lst_end, hlS, ← hlline, show lst line ++ 10 :: (im_out w L L.length).map (fun n => UInt8.ofNat n.toNat) = (lst line ++ [10]) ++ (im_out w L L.length).map (fun n => UInt8.ofNat n.toNat) by simp, app_drop (by simp [lst_len]), lst_str]
    have hsplit : strings_Split.f line (⟨#[32]⟩ : ByteArray) = some [⟨#[105, 109, 97, 103, 101]⟩, tW, tH] := by
      have e : cutAll 32 (lst line) = [[105, 109, 97, 103, 101], lst tW, lst tH] := by
        rw [hlline, cut_cons (by decide), cut_cons (fun hm => (nW _ hm).1 rfl), cutAll_miss (index_no (fun hm => (nH _ hm).1 rfl))]
      unfold strings_Split.f
      rw [if_pos ⟨rfl, by omega⟩]
      show some ((cutAll 32 (lst line)).map fun l => (⟨l.toArray⟩ : ByteArray)) = _
      rw [e]
      simp only [List.map_cons, List.map_nil, mk_lst]
    obtain ⟨n, hn⟩ := read_loop (w := w) (H := (h : Int)) (L := L) (by omega) (by omega) (by omega) hall L.length 0 (by omega)
    refine ⟨K1 + n + L.length + 20, ?_⟩
    obtain ⟨j, hj⟩ : ∃ j, K1 + n + L.length + 20 = ((j + 1) + n) + 1 + 1 ∧ K1 ≤ j ∧ L.length + 1 ≤ j + 3 + n ∧ 5 ≤ j := ⟨K1 + L.length + 17, by omega, by omega, by omega, by omega⟩
    obtain ⟨hj, hj1, hj2, hj5⟩ := hj
    have hSs2 : S.size ≤ 20000 := by
      rw [← hSdef, size_str, List.length_append, List.length_map, hlen]
      have h1 := lst_len (im_head tW tH)
      rw [hline] at h1
      simp [lst_len] at h1
      show (lst (im_head tW tH)).length + _ ≤ _
      rw [lst_len]
      omega
    have hrsz : ((strOfNums (im_out w L L.length)).size : Int) = wrap64 ((h : Int) * wrap64 ((w : Int) + 1)) := by
      rw [size_str, hlen, hLn, w64 (n := (w : Int) + 1) (by omega) (by omega)]
      have hm2 := m64 (a := (h : Int)) (b := (w : Int) + 1) (by omega) (by omega) (by omega) (by omega)
      rw [w64 (by omega) (by omega), Int.mul_add, Int.mul_one, Int.natCast_add, Int.natCast_mul, Int.mul_comm]
    have hrd : asset_ReadImage.f (K1 + n + L.length + 20) S = some ((w : Int), (h : Int), L, 0) := by
      unfold asset_ReadImage.f
      rw [if_neg (by omega), hcut, Option.bind_some]
      dsimp only
      rw [hsplit, Option.bind_some, if_pos rfl, if_pos (by rfl), if_pos (by simp)]
      have hne : ((rdOf ByteArray.empty [(⟨#[105, 109, 97, 103, 101]⟩ : ByteArray), tW, tH] 0).toList != ([105, 109, 97, 103, 101] : List UInt8)) = false := by
        show ((⟨#[105, 109, 97, 103, 101]⟩ : ByteArray).toList != _) = false
        rw [lst_tl]; rfl
      rw [hne, hj, asset_ReadImage.j0, if_neg (by simp), if_pos (by simp)]
      show ((asset_side.f (j + 1 + n + 1) tW).bind fun bt119 => _) = _
      rw [eW _ (by omega), Option.bind_some, if_pos (by simp)]
      show ((asset_side.f (j + 1 + n + 1) tH).bind fun bt119 => _) = _
      rw [eH _ (by omega), Option.bind_some]
      dsimp only
      rw [if_pos rfl, if_pos rfl, hrsz, bne_self_eq_false, asset_ReadImage.j1, if_neg (by simp)]
      have := hn (j + 1)
      rw [show ((0 + 0 / w : Nat) : Int) = 0 by simp, List.take_zero] at this
      rw [this, asset_ReadImage.l0, if_neg (by rw [size_str, hlen, hdiv]; omega), hc _ (by omega), Option.bind_some, if_pos rfl]
    unfold mastkeep2_ImageRound.f mastkeep2_awakeAsset.f
    rw [Option.bind_some, if_pos rfl, hf _ (by omega), Option.bind_some]
    dsimp only
    rw [if_pos rfl, hrd, Option.bind_some]
    dsimp only
    rw [if_pos rfl, if_pos rfl, if_pos rfl]
    unfold slices_Equal_int_int.f
    rw [if_pos rfl]
    have := equal_self L (by omega) L.length 0 (by omega) (by omega) (by omega) (K1 + n + 19)
    rw [show L.length + 1 + (K1 + n + 19) = K1 + n + L.length + 20 by omega] at this
    rw [this]; rfl
  · have hcn : c ≠ 0 := fun e => hR (hiff.1 e)
    refine ⟨K1, ?_⟩
    unfold mastkeep2_ImageRound.f mastkeep2_awakeAsset.f
    rw [Option.bind_some, if_pos rfl]
    unfold asset_ImageString.f
    rw [hc K1 (Nat.le_refl _), Option.bind_some, if_neg hcn, Option.bind_some, if_neg hcn]
    show some ((⟨#[]⟩ : ByteArray).toList == ([] : List UInt8)) = some true
    rw [empty_tl]; rfl
end Go.Proofs.YthagabjcoknogaaDoor.Pure
