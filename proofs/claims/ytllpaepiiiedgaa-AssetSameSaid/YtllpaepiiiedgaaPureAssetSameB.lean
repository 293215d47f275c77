/- What the walk's functions answer, told by plain lists of bytes. -/
import Derived.Test.YtllpaepiiiedgaaPureAssetSameA
import Derived.Test.YtllpaepiiiedgaaAssetSame0
import Derived.KernelRfl
namespace Go.Proofs.Ytllpaepiiiedgaa.PAssetSame
open Go.RowKit Go.Proofs.YtllpaepiiiedgaaW.PrintWords Go.Proofs.YtllpaepiiiedgaaW.PrintLast Go.Proofs.YtllpaepiiiedgaaW.PrintMore
set_option linter.unusedVariables false
set_option linter.unusedSimpArgs false
abbrev by_ (s : ByteArray) : List UInt8 := s.data.toList
theorem by_len (s : ByteArray) : (by_ s).length = s.size := (Lib.size_eq s).symm
theorem bt_cons {s : ByteArray} {i : Nat} {c : UInt8} {R : List UInt8} (h : (by_ s).drop i = c :: R) : i < s.size ∧ bt s (i : Int) = (c.toNat : Int) ∧ (by_ s).drop (i + 1) = R := by
  have hlt : i < (by_ s).length := by
    by_cases hq : i < (by_ s).length
    · exact hq
    · rw [List.drop_eq_nil_of_le (by omega)] at h; cases h
  rw [List.drop_eq_getElem_cons hlt] at h
  injection h with h1 h2
  have hs : i < s.size := by rw [← by_len]; exact hlt
  refine ⟨hs, ?_, h2⟩
  unfold bt
  rw [dif_pos (by rw [Int.toNat_natCast]; exact hs)]
  simp only [Int.toNat_natCast]
  rw [← h1]
  rfl
theorem drop_lt {s : ByteArray} {i : Nat} (h : i < s.size) : ∃ c R, (by_ s).drop i = c :: R := ⟨_, _, List.drop_eq_getElem_cons (by rw [by_len]; exact h)⟩
theorem drop_end {s : ByteArray} {i : Nat} (h : s.size ≤ i) : (by_ s).drop i = [] := List.drop_eq_nil_of_le (by rw [by_len]; exact h)
theorem by_all {p : UInt8 → Bool} (h : (List.range 256).all (fun n => p (UInt8.ofNat n)) = true) (c : UInt8) : p c = true := by
  have h1 := List.all_eq_true.1 h c.toNat (List.mem_range.2 c.toNat_lt)
  rwa [UInt8.ofNat_toNat] at h1
theorem badByte_eq (c : UInt8) : asset_badByte.f (c.toNat : Int) = some (badB c) := by
  have := by_all (p := fun c => asset_badByte.f (c.toNat : Int) == some (badB c)) (by kernel_rfl) c
  exact beq_iff_eq.1 this
theorem isBlank_eq (c : UInt8) : asset_isBlank.f (c.toNat : Int) = some (isB c) := by
  have := by_all (p := fun c => asset_isBlank.f (c.toNat : Int) == some (isB c)) (by kernel_rfl) c
  exact beq_iff_eq.1 this
theorem word_eq (c : UInt8) : asset_isScriptWord.f (c.toNat : Int) = some (wrd c) := by
  have := by_all (p := fun c => asset_isScriptWord.f (c.toNat : Int) == some (wrd c)) (by kernel_rfl) c
  exact beq_iff_eq.1 this
theorem quo_eq (c : UInt8) : ((c.toNat : Int) == 34 || (c.toNat : Int) == 39) = quo c := by
  have := by_all (p := fun c => ((c.toNat : Int) == 34 || (c.toNat : Int) == 39) == quo c) (by kernel_rfl) c
  exact beq_iff_eq.1 this
theorem quo_a (c : UInt8) : quo c = true ↔ ((c.toNat : Int) = 34 ∨ (c.toNat : Int) = 39) := by rw [← quo_eq]; simp
theorem isMark_eq (s : ByteArray) (b : Bool) (l : List S72) (c : UInt8) : asset_scanner_isMark.f s b l (c.toNat : Int) = some (mrk b c, s, b) := by
  unfold asset_scanner_isMark.f
  cases b with
  | true => rw [if_pos rfl, word_eq]; rfl
  | false =>
    rw [if_neg Bool.false_ne_true]
    unfold strings_IndexByte.f
    simp only [Option.bind_some]
    congr 2
    rw [Int.toNat_natCast]
    have h : c.toNat.toUInt8 = c := by simp
    rw [h]
    unfold mrk
    rw [if_neg Bool.false_ne_true, Bool.eq_iff_iff, decide_eq_true_eq]
    show (0 ≤ Lib.indexByte _ c) ↔ _
    rw [ib_pos]
    simp
theorem hp_eq (a p : ByteArray) : strings_HasPrefix.f a p = some ((by_ a).take p.size == by_ p) := by
  unfold strings_HasPrefix.f stringslite_HasPrefix.f
  by_cases h : (a.size : Int) ≥ (p.size : Int)
  · rw [if_pos h, if_pos (by omega), if_pos (by omega), Int.toNat_natCast, Option.bind_some, Lib.toList_data, Lib.toList_data, Lib.extract_data]
    simp
  · rw [if_neg h, Option.bind_some]
    congr 1
    symm
    rw [beq_eq_false_iff_ne]
    intro e
    have := congrArg List.length e
    rw [List.length_take, by_len, by_len] at this
    omega
theorem pre_eq {s : ByteArray} {i : Nat} (p : ByteArray) : strings_HasPrefix.f (s.extract (i : Int).toNat s.size) p = some (((by_ s).drop i).take p.size == by_ p) := by
  rw [hp_eq]
  unfold by_
  rw [Int.toNat_natCast, Lib.extract_to_end]
theorem sz_drop {s : ByteArray} {i : Nat} : (s.extract (i : Int).toNat s.size).size = s.size - i := by
  rw [ByteArray.size_extract, Nat.min_self, Int.toNat_natCast]
theorem cmt_no {s : ByteArray} {b : Bool} {i : Nat} (l : List S72) (hi : i ≤ s.size) (h : noCmt b ((by_ s).drop i) = true) (k : Nat) : asset_scanner_comment.f (k + 1) s b l (i : Int) = some (-1, s, b) := by
  unfold noCmt at h
  rw [Bool.and_eq_true, Bool.not_eq_true', Bool.not_eq_true'] at h
  unfold asset_scanner_comment.f
  rw [if_pos (by omega), if_pos (by omega), pre_eq]
  simp only [Option.bind_some]
  rw [if_neg (by rw [show (by_ (⟨#[47, 42]⟩ : ByteArray)) = [47, 42] from rfl, show (⟨#[47, 42]⟩ : ByteArray).size = 2 from rfl, h.1]; decide)]
  cases b with
  | true =>
    rw [if_pos rfl, pre_eq]
    simp only [Option.bind_some]
    rw [show (by_ (⟨#[47, 47]⟩ : ByteArray)) = [47, 47] from rfl, show (⟨#[47, 47]⟩ : ByteArray).size = 2 from rfl, show (((by_ s).drop i).take 2 == [47, 47]) = false from by simpa using h.2, asset_scanner_comment.j0, if_neg Bool.false_ne_true]
  | false => rw [if_neg Bool.false_ne_true, asset_scanner_comment.j0, if_neg Bool.false_ne_true]
theorem ib_two (R : List UInt8) : Lib.indexByte (47 :: 47 :: R) 10 = -1 ∨ 2 ≤ Lib.indexByte (47 :: 47 :: R) 10 := by
  have tz : -1 ≤ Lib.indexByte R 10 := Lib.index_one _ (10 : UInt8) ▸ Lib.index_ge _ [(10 : UInt8)]
  have e1 : Lib.indexByte (47 :: R) 10 = if Lib.indexByte R 10 == -1 then -1 else Lib.indexByte R 10 + 1 := rfl
  have e2 : Lib.indexByte (47 :: 47 :: R) 10 = if Lib.indexByte (47 :: R) 10 == -1 then -1 else Lib.indexByte (47 :: R) 10 + 1 := rfl
  generalize Lib.indexByte R 10 = z at *
  by_cases hz : z = -1
  · subst hz
    left
    rw [e2, e1]
    rfl
  · right
    rw [if_neg (by simpa using hz)] at e1
    rw [e2, e1, if_neg (by simp; omega)]
    omega
theorem cmt_yes {s : ByteArray} {b : Bool} {i : Nat} (l : List S72) (hi : i ≤ s.size) (hs : s.size ≤ 20000) (h : noCmt b ((by_ s).drop i) = false) : ∃ r : Nat, i < r ∧ ∀ k, asset_scanner_comment.f (k + 1) s b l (i : Int) = some ((r : Int), s, b) := by
  by_cases h1 : (((by_ s).drop i).take 2 == [47, 42]) = true
  · have hlen : 2 ≤ s.size - i := by
      have := congrArg List.length (beq_iff_eq.1 h1)
      rw [List.length_take, List.length_drop, by_len] at this
      simp at this
      omega
    have hx : ((s.extract (i : Int).toNat s.size).extract 2 (s.extract (i : Int).toNat s.size).size).size = s.size - i - 2 := by
      rw [ByteArray.size_extract, Nat.min_self, sz_drop]
    obtain ⟨t, ht⟩ : ∃ t, Lib.index ((s.extract (i : Int).toNat s.size).extract 2 (s.extract (i : Int).toNat s.size).size).data.toList ((⟨#[42, 47]⟩ : ByteArray).data.toList) = t := ⟨_, rfl⟩
    have t0 := Lib.index_ge ((s.extract (i : Int).toNat s.size).extract 2 (s.extract (i : Int).toNat s.size).size).data.toList ((⟨#[42, 47]⟩ : ByteArray).data.toList)
    have t1 := Lib.index_le ((s.extract (i : Int).toNat s.size).extract 2 (s.extract (i : Int).toNat s.size).size).data.toList ((⟨#[42, 47]⟩ : ByteArray).data.toList)
    rw [ht] at t0 t1
    rw [← Lib.size_eq, hx] at t1
    have hf : ∀ k, asset_scanner_comment.f (k + 1) s b l (i : Int) = if t < 0 then some (wrap64 ((s.size : Int) + 1), s, b) else some (wrap64 ((wrap64 ((wrap64 ((i : Int) + 2)) + t)) + 2), s, b) := fun k => by
      unfold asset_scanner_comment.f
      rw [if_pos (by omega), if_pos (by omega), pre_eq]
      simp only [Option.bind_some]
      rw [if_pos (by rw [show (by_ (⟨#[47, 42]⟩ : ByteArray)) = [47, 42] from rfl, show (⟨#[47, 42]⟩ : ByteArray).size = 2 from rfl]; exact h1), if_pos (by rw [sz_drop]; omega)]
      unfold strings_Index.f
      rw [if_pos (by rw [hx]; omega), ht]
      simp only [Option.bind_some]
    clear ht hx h1
    by_cases hn : t < 0
    · refine ⟨s.size + 1, by omega, fun k => ?_⟩
      have hw : wrap64 ((s.size : Int) + 1) = ((s.size + 1 : Nat) : Int) := by unfold wrap64; omega
      rw [hf, if_pos hn, hw]
    · refine ⟨(i + 4 + t).toNat, by omega, fun k => ?_⟩
      have hw : wrap64 ((wrap64 ((wrap64 ((i : Int) + 2)) + t)) + 2) = (((i + 4 + t).toNat : Nat) : Int) := by unfold wrap64; omega
      rw [hf, if_neg hn, hw]
  · have h1' : (((by_ s).drop i).take 2 == [47, 42]) = false := by simpa using h1
    unfold noCmt at h
    rw [h1'] at h
    simp only [Bool.not_false, Bool.true_and, Bool.not_eq_false', Bool.and_eq_true] at h
    obtain ⟨hb, h2⟩ := h
    subst hb
    have e2 := beq_iff_eq.1 h2
    obtain ⟨t, ht⟩ : ∃ t, Lib.indexByte (s.extract (i : Int).toNat s.size).data.toList ((10 : Int).toNat.toUInt8) = t := ⟨_, rfl⟩
    have hd : (s.extract (i : Int).toNat s.size).data.toList = (by_ s).drop i := by rw [Int.toNat_natCast]; exact Lib.extract_to_end s i
    have hlen : 2 ≤ s.size - i := by
      have := congrArg List.length e2
      rw [List.length_take, List.length_drop, by_len] at this
      simp at this
      omega
    have tg : t = -1 ∨ 2 ≤ t ∧ t ≤ s.size - i := by
      have t1 := Lib.index_le (s.extract (i : Int).toNat s.size).data.toList [(10 : Int).toNat.toUInt8]
      rw [Lib.index_one, ht, ← Lib.size_eq, sz_drop] at t1
      have e3 : (by_ s).drop i = 47 :: 47 :: ((by_ s).drop i).drop 2 := by
        conv => lhs; rw [← List.take_append_drop 2 ((by_ s).drop i), e2]
        rfl
      rw [hd, e3, show (10 : Int).toNat.toUInt8 = (10 : UInt8) from rfl] at ht
      rcases ib_two (((by_ s).drop i).drop 2) with e | e
      · exact .inl (ht ▸ e)
      · exact .inr (by omega)
    have hf : ∀ k, asset_scanner_comment.f (k + 1) s true l (i : Int) = if t < 0 then some ((s.size : Int), s, true) else some (wrap64 ((i : Int) + t), s, true) := fun k => by
      unfold asset_scanner_comment.f
      rw [if_pos (by omega), if_pos (by omega), pre_eq]
      simp only [Option.bind_some]
      rw [if_neg (by rw [show (by_ (⟨#[47, 42]⟩ : ByteArray)) = [47, 42] from rfl, show (⟨#[47, 42]⟩ : ByteArray).size = 2 from rfl, h1']; decide), if_pos trivial, pre_eq]
      simp only [Option.bind_some]
      rw [show (by_ (⟨#[47, 47]⟩ : ByteArray)) = [47, 47] from rfl, show (⟨#[47, 47]⟩ : ByteArray).size = 2 from rfl, h2, asset_scanner_comment.j0, if_pos rfl]
      unfold strings_IndexByte.f
      rw [ht]
      simp only [Option.bind_some]
    clear ht hd e2 h2 h1'
    by_cases hn : t < 0
    · exact ⟨s.size, by omega, fun k => by rw [hf, if_pos hn]⟩
    · refine ⟨(i + t).toNat, by omega, fun k => ?_⟩
      have hw : wrap64 ((i : Int) + t) = (((i + t).toNat : Nat) : Int) := by unfold wrap64; omega
      rw [hf, if_neg hn, hw]
/-- the first bad byte of a part -/
theorem checked_ex {s : ByteArray} (b : Bool) (l : List S72) (hs : s.size ≤ 20000) (j : Nat) (hj : j ≤ s.size) : ∀ (n i : Nat), i + n = j → ∃ r : Int, Ev (fun k => asset_scanner_checked.l0 k (j : Int) (i : Int) s b l) (r, s, b) ∧
    ((r = -1 ∧ ∀ c ∈ ((by_ s).drop i).take n, badB c = false) ∨ (0 ≤ r ∧ ∃ c ∈ ((by_ s).drop i).take n, badB c = true))
  | 0, i, h => ⟨-1, Ev.step (fun k => by rw [asset_scanner_checked.l0, if_neg (by omega)]) (Ev.now _), .inl ⟨rfl, by simp⟩⟩
  | n + 1, i, h => by
    obtain ⟨c, R, hd⟩ := drop_lt (s := s) (i := i) (by omega)
    obtain ⟨h1, h2, h3⟩ := bt_cons hd
    have hw : wrap64 ((i : Int) + 1) = ((i + 1 : Nat) : Int) := by unfold wrap64; omega
    have h0 : ∀ k, asset_scanner_checked.l0 (k + 1) (j : Int) (i : Int) s b l = if badB c = true then some ((i : Int), s, b) else asset_scanner_checked.l0 k (j : Int) ((i + 1 : Nat) : Int) s b l := fun k => by
      rw [asset_scanner_checked.l0, if_pos (by omega), if_pos (by omega), if_pos (by omega), h2, badByte_eq, hw]
      rfl
    by_cases hb : badB c = true
    · refine ⟨i, Ev.step (fun k => by rw [h0, if_pos hb]) (Ev.now _), .inr ⟨by omega, c, by rw [hd]; simp, hb⟩⟩
    · obtain ⟨r, hr, hx⟩ := checked_ex b l hs j hj n (i + 1) (by omega)
      refine ⟨r, Ev.step (fun k => by rw [h0, if_neg hb]) hr, ?_⟩
      rw [h3] at hx
      rw [hd]
      rcases hx with ⟨e, hx⟩ | ⟨e, d, hd', hx⟩
      · exact .inl ⟨e, fun d hd' => by
          rw [List.take_succ_cons] at hd'
          rcases List.mem_cons.1 hd' with e2 | e2
          · rw [e2]; simpa using hb
          · exact hx d e2⟩
      · exact .inr ⟨e, d, by rw [List.take_succ_cons]; exact List.mem_cons_of_mem _ hd', hx⟩
end Go.Proofs.Ytllpaepiiiedgaa.PAssetSame
