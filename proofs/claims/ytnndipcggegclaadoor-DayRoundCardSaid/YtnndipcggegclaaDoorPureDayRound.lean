/- Every day from 0 to MaxDay: its string is read back, its date gives the day again, its weekday is the remainder; any other day is refused. -/
import Derived.Test.YtnndipcggegclaaDoorPDayRoundx3
import Derived.Lib.SmallJoins
import Derived.Lib.Strings
namespace Go.Proofs.YtnndipcggegclaaDoor.Pure
open Go.RowKit Go.Proofs.YtnndipcggegclaaDoor.PDayRound Go.Proofs.YtnndipcggegclaaDoorW.PrintWords Go.Proofs.YtnndipcggegclaaDoorW.PrintLast Go.Proofs.YtnndipcggegclaaDoorW.PrintMore

theorem w64 {n : Int} (h0 : -9223372036854775808 ≤ n) (h1 : n < 9223372036854775808) : wrap64 n = n := by unfold wrap64; omega
/-- The days ahead of year 1970 + i, the days of that year, of its month m, and of its months 1 to m. -/
def bz (i : Nat) : Int := (conf_before.f (1970 + (i : Int))).getD 0
def yz (i : Nat) : Int := (conf_yearDays.f (1970 + (i : Int))).getD 0
def mz (i m : Nat) : Int := (conf_monthDays.f (1970 + (i : Int)) (m : Int)).getD 0
def cz (i : Nat) : Nat → Int
  | 0 => 0
  | m + 1 => cz i m + mz i (m + 1)
set_option maxRecDepth 100000 in
theorem yr_fin : ∀ i : Fin 230, conf_before.f (1970 + ((i.val : Nat) : Int)) = some (bz i.val) ∧ conf_yearDays.f (1970 + ((i.val : Nat) : Int)) = some (yz i.val) ∧ bz (i.val + 1) = bz i.val + yz i.val ∧
    0 ≤ bz i.val ∧ bz i.val ≤ 84006 ∧ bz i.val ≤ 366 * ((i.val : Nat) : Int) ∧ 0 ≤ yz i.val ∧ yz i.val ≤ 366 ∧ cz i.val 12 = yz i.val := by decide +kernel
set_option maxRecDepth 100000 in
theorem mo_fin : ∀ i : Fin 230, ∀ m : Fin 12, conf_monthDays.f (1970 + ((i.val : Nat) : Int)) ((m.val + 1 : Nat) : Int) = some (mz i.val (m.val + 1)) ∧ 28 ≤ mz i.val (m.val + 1) ∧ mz i.val (m.val + 1) ≤ 31 := by decide +kernel
theorem ends : bz 0 = 0 ∧ bz 230 = 84006 := by decide +kernel
theorem mo {i m : Nat} (hi : i < 230) (hm : m < 12) : conf_monthDays.f (1970 + (i : Int)) ((m + 1 : Nat) : Int) = some (mz i (m + 1)) ∧ 28 ≤ mz i (m + 1) ∧ mz i (m + 1) ≤ 31 := mo_fin ⟨i, hi⟩ ⟨m, hm⟩
theorem cz_range {i : Nat} (hi : i < 230) : ∀ m, m ≤ 12 → 0 ≤ cz i m ∧ cz i m ≤ 31 * (m : Int)
  | 0, _ => by simp [cz]
  | m + 1, h => by
    have ih := cz_range hi m (by omega)
    have hm := mo hi (show m < 12 by omega)
    show 0 ≤ cz i m + mz i (m + 1) ∧ cz i m + mz i (m + 1) ≤ _
    omega
theorem l1_ends {i : Nat} (hi : i < 230) {x : Int} (hx2 : x < yz i) : ∀ t m : Nat, t + m = 12 → cz i m ≤ x →
    ∃ (k m' : Nat) (d : Int), conf_date.l1 k (x - cz i m) (1970 + (i : Int)) ((m + 1 : Nat) : Int) = some (1970 + (i : Int), ((m' + 1 : Nat) : Int), d) ∧ m' < 12 ∧ 1 ≤ d ∧ d ≤ mz i (m' + 1) ∧ x = cz i m' + d - 1 := by
  obtain ⟨_, _, _, _, _, _, _, hy, hc⟩ := yr_fin ⟨i, hi⟩
  dsimp only at hy hc
  intro t
  induction t with
  | zero =>
    intro m hm hle
    obtain rfl : m = 12 := by omega
    omega
  | succ t ih =>
    intro m hm hle
    have hmo := mo hi (show m < 12 by omega)
    have hcr := cz_range hi m (by omega)
    by_cases c : x - cz i m ≥ mz i (m + 1)
    · obtain ⟨k, m', d, h, r⟩ := ih (m + 1) (by omega) (by show cz i m + mz i (m + 1) ≤ x; omega)
      refine ⟨k + 1, m', d, ?_, r⟩
      rw [conf_date.l1, hmo.1, Option.bind_some, if_pos c, Option.bind_some]
      rw [w64 (by omega) (by omega), w64 (by omega) (by omega)]
      have e1 : x - cz i m - mz i (m + 1) = x - cz i (m + 1) := by show _ = x - (cz i m + mz i (m + 1)); omega
      rw [e1, show (((m + 1 : Nat) : Int) + 1) = ((m + 1 + 1 : Nat) : Int) from rfl]
      exact h
    · refine ⟨1, m, x - cz i m + 1, ?_, by omega, by omega, by omega, by omega⟩
      rw [conf_date.l1, hmo.1, Option.bind_some, if_neg c, w64 (by omega) (by omega)]
theorem l0_ends {n : Int} (hn : n < 84006) : ∀ t i : Nat, t + i = 230 → bz i ≤ n →
    ∃ (k j m' : Nat) (d : Int), conf_date.l0 k n (1970 + (i : Int)) = some (1970 + (j : Int), ((m' + 1 : Nat) : Int), d) ∧ j < 230 ∧ m' < 12 ∧ 1 ≤ d ∧ d ≤ mz j (m' + 1) ∧ n = bz j + cz j m' + d - 1 := by
  intro t
  induction t with
  | zero =>
    intro i hi hle
    obtain rfl : i = 230 := by omega
    have := ends.2
    omega
  | succ t ih =>
    intro i hi hle
    have hi' : i < 230 := by omega
    obtain ⟨hb, hy, hs, h0, h1, _, h2, h3, _⟩ := yr_fin ⟨i, hi'⟩
    dsimp only at hb hy hs h0 h1 h2 h3
    by_cases c : n ≥ bz i + yz i
    · obtain ⟨k, j, m', d, h, r⟩ := ih (i + 1) (by omega) (by omega)
      refine ⟨k + 1, j, m', d, ?_, r⟩
      rw [conf_date.l0, hb, hy, Option.bind_some, Option.bind_some, w64 (n := bz i + yz i) (by omega) (by omega), if_pos c]
      rw [w64 (by omega) (by omega)]
      have e : (1970 + (i : Int) + 1) = 1970 + ((i + 1 : Nat) : Int) := by omega
      rw [e]; exact h
    · obtain ⟨k, m', d, h, hm, hd, hd2, hx⟩ := l1_ends hi' (x := n - bz i) (by omega) 12 0 rfl (by show (0 : Int) ≤ _; omega)
      refine ⟨k + 1, i, m', d, ?_, hi', hm, hd, hd2, by omega⟩
      rw [conf_date.l0, hb, hy, Option.bind_some, Option.bind_some, w64 (n := bz i + yz i) (by omega) (by omega), if_neg c, Option.bind_some]
      rw [w64 (by omega) (by omega)]
      have e : n - bz i - cz i 0 = n - bz i := by show n - bz i - 0 = _; omega
      rw [e] at h
      exact h
theorem date_ends {n : Int} (h0 : 0 ≤ n) (hn : n < 84006) : ∃ (k j m' : Nat) (d : Int), conf_date.f k n = some (1970 + (j : Int), ((m' + 1 : Nat) : Int), d) ∧ j < 230 ∧ m' < 12 ∧ 1 ≤ d ∧ d ≤ mz j (m' + 1) ∧ n = bz j + cz j m' + d - 1 := by
  have hq : n / 366 < 230 := by omega
  obtain ⟨q, hq2⟩ := Int.eq_ofNat_of_zero_le (show 0 ≤ n / 366 by omega)
  have hqb := (yr_fin ⟨q, by omega⟩).2.2.2.2.2.1
  dsimp only at hqb
  obtain ⟨k, j, m', d, h, r⟩ := l0_ends hn (230 - q) q (by omega) (by omega)
  refine ⟨k, j, m', d, ?_, r⟩
  unfold conf_date.f
  rw [Int.tdiv_eq_ediv_of_nonneg h0, hq2]
  rw [w64 (n := ((q : Nat) : Int)) (by omega) (by omega), w64 (by omega) (by omega)]
  exact h
theorem sum_ends {j m' : Nat} (hj : j < 230) (hm : m' < 12) {x : Int} (hx : 0 ≤ x ∧ x ≤ 200000) : ∀ t q : Nat, t + q = m' →
    ∃ k, conf_dayOf.l0 k (1970 + (j : Int)) ((m' + 1 : Nat) : Int) (x + cz j q) ((q + 1 : Nat) : Int) = some (x + cz j m', true) := by
  intro t
  induction t with
  | zero =>
    intro q hq
    obtain rfl : q = m' := by omega
    exact ⟨1, by rw [conf_dayOf.l0, if_neg (by omega)]⟩
  | succ t ih =>
    intro q hq
    obtain ⟨k, h⟩ := ih (q + 1) (by omega)
    have hmo := mo hj (show q < 12 by omega)
    have hcr := cz_range hj q (by omega)
    refine ⟨k + 1, ?_⟩
    rw [conf_dayOf.l0, if_pos (by omega), hmo.1, Option.bind_some, w64 (by omega) (by omega), w64 (by omega) (by omega)]
    have e : x + cz j q + mz j (q + 1) = x + cz j (q + 1) := by show _ = x + (cz j q + mz j (q + 1)); omega
    rw [e]; exact h
theorem dayOf_ends {j m' : Nat} (hj : j < 230) (hm : m' < 12) {d : Int} (hd : 1 ≤ d) (hd2 : d ≤ mz j (m' + 1)) : ∃ k, conf_dayOf.f k (1970 + (j : Int)) ((m' + 1 : Nat) : Int) d = some (bz j + cz j m' + d - 1, true) := by
  obtain ⟨hb, _, _, h0, h1, _⟩ := yr_fin ⟨j, hj⟩
  dsimp only at hb h0 h1
  have hmo := mo hj hm
  have hcr := cz_range hj m' (by omega)
  obtain ⟨k, h⟩ := sum_ends hj hm (x := bz j + d - 1) (by omega) m' 0 rfl
  refine ⟨k + 1, ?_⟩
  unfold conf_dayOf.f
  rw [if_neg (by omega), if_neg (by omega), if_neg (by omega), if_neg (by omega), if_neg (by omega), hmo.1, Option.bind_some, decide_eq_false (by omega), conf_dayOf.j0, if_neg (by decide), hb, Option.bind_some]
  rw [w64 (n := bz j + d) (by omega) (by omega), w64 (by omega) (by omega)]
  have e0 : bz j + d - 1 + cz j 0 = bz j + d - 1 := by show bz j + d - 1 + 0 = _; omega
  rw [e0] at h
  rw [show bz j + cz j m' + d - 1 = bz j + d - 1 + cz j m' by omega]
  exact h

/-! the string -/
set_option maxRecDepth 100000 in
theorem dig4 : ∀ i : Fin 230, conf_digits.f 6 (1970 + ((i.val : Nat) : Int)) 4 = some (strOfNums [48 + (1970 + ((i.val : Nat) : Int)) / 1000, 48 + (1970 + ((i.val : Nat) : Int)) / 100 % 10, 48 + (1970 + ((i.val : Nat) : Int)) / 10 % 10, 48 + (1970 + ((i.val : Nat) : Int)) % 10]) := by decide +kernel
set_option maxRecDepth 100000 in
theorem dig2 : ∀ i : Fin 32, conf_digits.f 6 ((i.val : Nat) : Int) 2 = some (strOfNums [48 + ((i.val : Nat) : Int) / 10, 48 + ((i.val : Nat) : Int) % 10]) := by decide +kernel
theorem size_str (T : List Int) : (strOfNums T).size = T.length := by
  show (T.map _).toArray.size = _
  rw [List.size_toArray, List.length_map]
theorem bt_str {T : List Int} (hT : ∀ z ∈ T, 0 ≤ z ∧ z ≤ 255) {i : Nat} (h : i < T.length) : bt (strOfNums T) (i : Int) = T[i] := by
  unfold bt
  have hs : (i : Int).toNat < (strOfNums T).size := by rw [size_str]; simpa using h
  rw [dif_pos hs]
  have hz := hT T[i] (List.getElem_mem h)
  show (((strOfNums T).data[(i : Int).toNat]'_).toNat : Int) = T[i]
  simp only [strOfNums, List.getElem_toArray, List.getElem_map, Int.toNat_natCast, UInt8.toNat_ofNat']
  omega
theorem str_append (a b : List Int) : strOfNums a ++ strOfNums b = strOfNums (a ++ b) := by
  refine ByteArray.ext (Array.toList_inj.1 ?_)
  rw [Joins.data_append]
  simp [strOfNums]
theorem dash : (⟨#[45]⟩ : ByteArray) = strOfNums [45] := by decide
def dayText (y m d : Int) : List Int := [48 + y / 1000, 48 + y / 100 % 10, 48 + y / 10 % 10, 48 + y % 10, 45, 48 + m / 10, 48 + m % 10, 45, 48 + d / 10, 48 + d % 10]
theorem string_ends {k : Nat} {n : Int} {j m' : Nat} {d : Int} (h : conf_date.f k n = some (1970 + (j : Int), ((m' + 1 : Nat) : Int), d)) (hk : 6 ≤ k) (hj : j < 230) (hm : m' < 12) (hd : 1 ≤ d) (hd2 : d ≤ mz j (m' + 1)) :
    conf_dayString.f k n = some (strOfNums (dayText (1970 + (j : Int)) ((m' + 1 : Nat) : Int) d)) := by
  have hmo := mo hj hm
  obtain ⟨dn, rfl⟩ := Int.eq_ofNat_of_zero_le (show 0 ≤ d by omega)
  unfold conf_dayString.f
  rw [h, Option.bind_some]
  dsimp only
  rw [at_rounds (conf_digits.mono _ _) hk (dig4 ⟨j, hj⟩), Option.bind_some]
  rw [at_rounds (conf_digits.mono _ _) hk (dig2 ⟨m' + 1, by omega⟩), Option.bind_some]
  rw [at_rounds (conf_digits.mono _ _) hk (dig2 ⟨dn, by omega⟩), Option.bind_some]
  rw [if_pos (by simp [size_str]), dash, str_append, str_append, str_append, str_append]
  rfl

/-! reading it -/
theorem read_ends {k : Nat} {y m d : Int} {r : Int × Int} (hy : 0 ≤ y ∧ y ≤ 9999) (hm : 0 ≤ m ∧ m ≤ 99) (hd : 0 ≤ d ∧ d ≤ 99) (h : conf_DayOf.f k y m d = some r) :
    conf_ReadDay.f k (strOfNums (dayText y m d)) = some r := by
  have hT : ∀ z ∈ dayText y m d, 0 ≤ z ∧ z ≤ 255 := by
    intro z hz
    simp only [dayText, List.mem_cons, List.not_mem_nil, or_false] at hz
    omega
  have hb : ∀ i : Nat, (hi : i < 10) → bt (strOfNums (dayText y m d)) (i : Int) = (dayText y m d)[i]'hi := fun i hi => bt_str hT hi
  have b0 := hb 0 (by decide)
  have b1 := hb 1 (by decide)
  have b2 := hb 2 (by decide)
  have b3 := hb 3 (by decide)
  have b4 := hb 4 (by decide)
  have b5 := hb 5 (by decide)
  have b6 := hb 6 (by decide)
  have b7 := hb 7 (by decide)
  have b8 := hb 8 (by decide)
  have b9 := hb 9 (by decide)
  simp only [dayText, List.getElem_cons_zero, List.getElem_cons_succ] at b0 b1 b2 b3 b4 b5 b6 b7 b8 b9
  generalize hs : strOfNums [48 + y / 1000, 48 + y / 100 % 10, 48 + y / 10 % 10, 48 + y % 10, 45, 48 + m / 10, 48 + m % 10, 45, 48 + d / 10, 48 + d % 10] = s at b0 b1 b2 b3 b4 b5 b6 b7 b8 b9
  have hz : s.size = 10 := by rw [← hs, size_str]; rfl
  have r0 : rdN s 0 = some (0, 0, 0) := rfl
  have r1 := rdN_digit s 0 _ _ _ r0 (by decide) (by omega)
  simp only [rdAdd, if_pos (show (0 : Nat) < 4 by decide)] at r1
  have r2 := rdN_digit s 1 _ _ _ r1 (by decide) (by omega)
  simp only [rdAdd, if_pos (show (1 : Nat) < 4 by decide)] at r2
  have r3 := rdN_digit s 2 _ _ _ r2 (by decide) (by omega)
  simp only [rdAdd, if_pos (show (2 : Nat) < 4 by decide)] at r3
  have r4 := rdN_digit s 3 _ _ _ r3 (by decide) (by omega)
  simp only [rdAdd, if_pos (show (3 : Nat) < 4 by decide)] at r4
  have r5 := rdN_sign s 4 _ _ _ r4 (by decide)
  have r6 := rdN_digit s 5 _ _ _ r5 (by decide) (by omega)
  simp only [rdAdd, if_neg (show ¬ (5 : Nat) < 4 by decide), if_pos (show (5 : Nat) < 7 by decide)] at r6
  have r7 := rdN_digit s 6 _ _ _ r6 (by decide) (by omega)
  simp only [rdAdd, if_neg (show ¬ (6 : Nat) < 4 by decide), if_pos (show (6 : Nat) < 7 by decide)] at r7
  have r8 := rdN_sign s 7 _ _ _ r7 (by decide)
  have r9 := rdN_digit s 8 _ _ _ r8 (by decide) (by omega)
  simp only [rdAdd, if_neg (show ¬ (8 : Nat) < 4 by decide), if_neg (show ¬ (8 : Nat) < 7 by decide)] at r9
  have r10 := rdN_digit s 9 _ _ _ r9 (by decide) (by omega)
  simp only [rdAdd, if_neg (show ¬ (9 : Nat) < 4 by decide), if_neg (show ¬ (9 : Nat) < 7 by decide)] at r10
  have hfin : rdN s 10 = some (y, m, d) := by
    rw [r10]
    refine congrArg some (Prod.ext ?_ (Prod.ext ?_ ?_)) <;> dsimp only <;> omega
  unfold conf_ReadDay.f
  rw [show strOfNums (dayText y m d) = s from hs, if_pos ⟨hz, by omega, by omega⟩, hfin]
  exact h

theorem DayRound : mastkeep2_DayRound.Pure := by
  intro a0 hwf
  by_cases hbad : a0 < 0 ∨ a0 > 84005
  · refine ⟨0, ?_⟩
    have hb : conf_badDay.f a0 = some true := by
      unfold conf_badDay.f
      by_cases c : a0 < 0
      · rw [if_pos c]
      · rw [if_neg c, decide_eq_true (by omega)]
    unfold mastkeep2_DayRound.f mastkeep2_awakeConf.f conf_DayString.f
    rw [hb]
    simp only [Option.bind_some, if_true]
    rw [if_neg (by decide), if_pos (by rw [Lib.toList_data])]
    by_cases c : a0 < 0
    · rw [if_pos c]
    · rw [if_neg c, decide_eq_true (by omega)]
  · have h0 : 0 ≤ a0 := by omega
    have h1 : a0 < 84006 := by omega
    obtain ⟨k1, j, m', d, hdate, hj, hm, hd, hd2, hn⟩ := date_ends h0 h1
    obtain ⟨k2, hof⟩ := dayOf_ends hj hm hd hd2
    have hmo := mo hj hm
    rw [← hn] at hof
    obtain ⟨k, hk1, hk2, hk6⟩ : ∃ k, k1 ≤ k ∧ k2 ≤ k ∧ 6 ≤ k := ⟨k1 + k2 + 6, by omega, by omega, by omega⟩
    have hdate' := at_rounds (conf_date.mono a0) hk1 hdate
    have hof' := at_rounds (conf_dayOf.mono _ _ _) hk2 hof
    have hOf : conf_DayOf.f k (1970 + (j : Int)) ((m' + 1 : Nat) : Int) d = some (a0, 0) := by
      unfold conf_DayOf.f; rw [hof', Option.bind_some]; rfl
    have hstr := string_ends hdate' hk6 hj hm hd hd2
    have hread := read_ends (by omega) (by omega) (by omega) hOf
    have hb : conf_badDay.f a0 = some false := by
      unfold conf_badDay.f
      rw [if_neg (by omega), decide_eq_false (by omega)]
    have hS : conf_DayString.f k a0 = some (strOfNums (dayText (1970 + (j : Int)) ((m' + 1 : Nat) : Int) d), 0) := by
      unfold conf_DayString.f; rw [hb, Option.bind_some, if_neg (by decide), hstr, Option.bind_some]
    have hD : conf_Date.f k a0 = some (1970 + (j : Int), ((m' + 1 : Nat) : Int), d, 0) := by
      unfold conf_Date.f; rw [hb, Option.bind_some, if_neg (by decide), hdate', Option.bind_some]
    have hW : conf_Weekday.f a0 = some (Int.tmod (wrap64 (a0 + 3)) 7, 0) := by
      unfold conf_Weekday.f; rw [hb, Option.bind_some, if_neg (by decide)]
    refine ⟨k, ?_⟩
    unfold mastkeep2_DayRound.f mastkeep2_awakeConf.f
    rw [Option.bind_some, if_pos rfl, hS, Option.bind_some, if_pos rfl]
    dsimp only
    rw [hread, Option.bind_some, hD, Option.bind_some]
    dsimp only
    rw [hOf, Option.bind_some, hW, Option.bind_some]
    dsimp only
    rw [if_pos rfl, if_pos rfl, if_pos rfl, if_pos rfl, if_pos rfl, if_pos rfl, beq_self_eq_true]

end Go.Proofs.YtnndipcggegclaaDoor.Pure
