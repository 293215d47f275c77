/- For the law RuleRound: what the reader's small steps answer on a text that is right. No condition. -/
import Derived.Test.YtilmjckpphlniaaDoorRuD
import Derived.Test.YtilmjckpphlniaaDoorPRuleRoundx7
import Derived.Lib.IndexBytes
namespace Go.Proofs.YtilmjckpphlniaaDoor.PRuleRound
open Go.RowKit Go.Proofs.YtilmjckpphlniaaDoorW.PrintWords Go.Proofs.YtilmjckpphlniaaDoorW.PrintLast Go.Proofs.YtilmjckpphlniaaDoorW.PrintMore
set_option linter.unusedVariables false
set_option linter.unusedSimpArgs false
/-- from i on the text is l -/
def At (s : ByteArray) (i : Nat) (l : List UInt8) : Prop := s.data.toList.drop i = l ∧ i ≤ s.size ∧ s.size ≤ 2000
section
variable {s : ByteArray} {i : Nat} {l a b r : List UInt8} {c : UInt8}
theorem size_tl (s : ByteArray) : s.data.toList.length = s.size := Array.length_toList
theorem At.len (h : At s i l) : i + l.length = s.size := by
  have h1 := congrArg List.length h.1
  rw [List.length_drop, size_tl] at h1
  have := h.2.1
  omega
theorem At.next (h : At s i (a ++ b)) : At s (i + a.length) b :=
  ⟨by rw [← List.drop_drop, h.1, List.drop_left], by have := h.len; rw [List.length_append] at this; omega, h.2.2⟩
theorem At.get (h : At s i (c :: r)) : i < s.size ∧ bt s (i : Int) = (c.toNat : Int) := by
  have hl := h.len
  rw [List.length_cons] at hl
  have hi : i < s.size := by omega
  refine ⟨hi, ?_⟩
  unfold bt
  rw [dif_pos (by rw [Int.toNat_natCast]; exact hi)]
  have h1 := h.1
  rw [List.drop_eq_getElem_cons (by rw [size_tl]; exact hi)] at h1
  injection h1 with h1 _
  rw [← h1]
  simp only [Int.toNat_natCast]
  rfl
theorem is_at (h : At s i l) (sg : ByteArray) : lang_ruler_is.f s i 0 false false sg = some (sg.data.toList.isPrefixOf l, s, (i : Int), 0, false, false) := by
  have hl := h.len
  have hi := h.2.1
  unfold lang_ruler_is.f strings_HasPrefix.f stringslite_HasPrefix.f
  rw [if_neg (by decide), if_pos (by omega), if_pos (by omega), Int.toNat_natCast]
  have e1 : (s.extract i s.size).size = l.length := by rw [ByteArray.size_extract]; omega
  have e2 : (s.extract i s.size).data.toList = l := by rw [Lib.extract_to_end, h.1]
  rw [e1]
  by_cases hc : (l.length : Int) ≥ (sg.size : Int)
  · rw [if_pos hc, if_pos (by omega), if_pos (by omega), Int.toNat_natCast]
    have e3 : ((s.extract i s.size).extract 0 sg.size).toList = l.take sg.size := by
      rw [Lib.toList_data, ByteArray.data_extract, Array.toList_extract, List.extract_eq_take_drop, e2]
      simp
    rw [e3, Lib.toList_data]
    simp only [Option.bind_some]
    congr 2
    rw [Bool.eq_iff_iff, beq_iff_eq, List.isPrefixOf_iff_prefix, List.prefix_iff_eq_take, size_tl]
    exact eq_comm
  · rw [if_neg hc]
    simp only [Option.bind_some]
    congr 2
    symm
    rw [Bool.eq_false_iff, ne_eq, List.isPrefixOf_iff_prefix]
    intro hp
    have := hp.length_le
    rw [size_tl] at this
    omega
theorem wr_id {n : Int} (h0 : 0 ≤ n) (h1 : n ≤ 100000000000) : wrap64 n = n := by unfold wrap64; omega
theorem take_l (s sg : ByteArray) (hsg : sg.size ≤ 100) (r : List UInt8) : ∀ (n j i k : Nat), j + n = sg.size → At s i (sg.data.toList.drop j ++ r) → 2 * n + 2 ≤ k → lang_ruler_take.l0 k sg (j : Int) s (i : Int) 0 false false = some (s, ((i + n : Nat) : Int), 0, false, false)
  | 0, j, i, k, hj, h, hk => by
    obtain ⟨k, rfl⟩ : ∃ k', k = k' + 2 := ⟨k - 2, by omega⟩
    rw [lang_ruler_take.l0, if_neg (by omega), lang_ruler_take.j1, if_neg (by decide)]
    rfl
  | n + 1, j, i, k, hj, h, hk => by
    obtain ⟨k, rfl⟩ : ∃ k', k = k' + 2 := ⟨k - 2, by omega⟩
    have hlt : j < sg.data.toList.length := by rw [size_tl]; omega
    have h0 := h
    rw [List.drop_eq_getElem_cons hlt, List.cons_append] at h
    obtain ⟨hi, hb⟩ := h.get
    have hn := At.next (a := [sg.data.toList[j]]) h
    have hs := h.2.2
    have hbs : bt sg (j : Int) = (sg.data.toList[j].toNat : Int) := by
      unfold bt
      rw [dif_pos (by rw [Int.toNat_natCast]; omega)]
      simp only [Int.toNat_natCast]
      rfl
    rw [lang_ruler_take.l0, if_pos (by omega), lang_ruler_take.j1, if_pos (by decide), if_neg (by omega), if_pos (by omega), if_pos (by omega), if_pos (by omega), if_pos (by omega), if_pos (by rw [hb, hbs]), wr_id (by omega) (by omega), wr_id (by omega) (by omega)]
    have ih := take_l s sg hsg r n (j + 1) (i + 1) k (by omega) hn (by omega)
    rw [show ((i + (n + 1) : Nat) : Int) = ((i + 1 + n : Nat) : Int) by omega]
    exact ih
theorem take_at (sg : ByteArray) (hsg : sg.size ≤ 100) (h : At s i (sg.data.toList ++ r)) : lang_ruler_take.f 300 s i 0 false false sg = some (s, ((i + sg.size : Nat) : Int), 0, false, false) := by
  unfold lang_ruler_take.f
  exact take_l s sg hsg r sg.size 0 i 300 (by omega) (by simpa using h) (by omega)
theorem more_yes (sg : ByteArray) (hsg : sg.size ≤ 100) (h2 : 2 ≤ sg.size) (h : At s i (sg.data.toList ++ r)) : lang_ruler_more.f 300 s i 0 false false sg = some (true, s, ((i + sg.size : Nat) : Int), 0, false, false) := by
  have hi := h.2.1
  have his := is_at h (sg.extract 0 2)
  unfold lang_ruler_is.f at his
  rw [if_neg (by decide), if_pos (by omega), if_pos (by omega)] at his
  obtain ⟨x, hx, he⟩ := Option.bind_eq_some_iff.1 his
  injection he with he
  have hx1 : x = true := by
    rw [(Prod.mk.inj he).1, List.isPrefixOf_iff_prefix, ByteArray.data_extract, Array.toList_extract, List.extract_eq_take_drop, List.drop_zero]
    exact (List.take_prefix _ _).trans (List.prefix_append _ _)
  unfold lang_ruler_more.f
  rw [if_neg (by decide), if_pos (by omega), if_pos (by omega), if_pos (by decide), if_pos (by omega), hx, hx1]
  simp only [Option.bind_some]
  rw [if_pos trivial, take_at sg hsg h]
  rfl
theorem more_no (sg : ByteArray) (h2 : 2 ≤ sg.size) (h : At s i l) (hno : (sg.data.toList.take 2).isPrefixOf l = false) : lang_ruler_more.f 300 s i 0 false false sg = some (false, s, (i : Int), 0, false, false) := by
  have hi := h.2.1
  have his := is_at h (sg.extract 0 2)
  unfold lang_ruler_is.f at his
  rw [if_neg (by decide), if_pos (by omega), if_pos (by omega)] at his
  obtain ⟨x, hx, he⟩ := Option.bind_eq_some_iff.1 his
  injection he with he
  have hx1 : x = false := by
    rw [(Prod.mk.inj he).1, ByteArray.data_extract, Array.toList_extract, List.extract_eq_take_drop, List.drop_zero]
    exact hno
  unfold lang_ruler_more.f
  rw [if_neg (by decide), if_pos (by omega), if_pos (by omega), if_pos (by decide), if_pos (by omega), hx, hx1]
  simp only [Option.bind_some]
  rw [if_neg (by decide)]
theorem close_at (h : At s i (41 :: r)) : lang_ruler_close.f 301 s i 0 false false = some (s, ((i + 1 : Nat) : Int), 0, false, false) := by
  unfold lang_ruler_close.f
  rw [if_neg (by decide), is_at h]
  simp only [Option.bind_some]
  rw [lang_ruler_close.j0, if_neg (by simp [List.isPrefixOf]), take_at (r := r) ⟨#[41]⟩ (by decide) h]
  rfl
/-- the number that digits write, behind v -/
def val (v : Nat) : List UInt8 → Nat
  | [] => v
  | c :: l => val (10 * v + (c.toNat - 48)) l
theorem val_append (a b : List UInt8) : ∀ v, val v (a ++ b) = val (val v a) b := by
  induction a with
  | nil => intro v; rfl
  | cons c a ih => intro v; exact ih _
theorem val_le : ∀ (l : List UInt8) (v : Nat), v ≤ val v l
  | [], v => Nat.le_refl _
  | c :: l, v => Nat.le_trans (by omega) (val_le l _)
/-- no digit begins it -/
def NoDig (r : List UInt8) : Prop := ∀ c ∈ r.head?, ¬ (48 ≤ c.toNat ∧ c.toNat ≤ 57)
theorem digit_f (c : UInt8) : lang_isDigit.f (c.toNat : Int) = some (decide (48 ≤ c.toNat ∧ c.toNat ≤ 57)) := by
  unfold lang_isDigit.f
  split
  · congr 1; rw [Bool.eq_iff_iff]; simp; omega
  · congr 1; symm; simp; omega
theorem number_l (s : ByteArray) (fr : Nat) (r : List UInt8) (hr : NoDig r) : ∀ (ds : List UInt8) (v i k : Nat), At s i (ds ++ r) → (∀ c ∈ ds, 48 ≤ c.toNat ∧ c.toNat ≤ 57) → fr ≤ i → (2 ≤ ds.length ∨ fr < i ∧ ds ≠ [] → bt s (fr : Int) ≠ 48) → (ds ≠ [] ∨ fr < i) → val v ds ≤ 1000000000 → 2 * ds.length + 2 ≤ k → lang_ruler_number.l0 k fr v s i 0 false false = some (((val v ds : Nat) : Int), s, ((i + ds.length : Nat) : Int), 0, false, false)
  | [], v, i, k, h, hd, hf, hz, hn, hv, hk => by
    obtain ⟨k, rfl⟩ : ∃ k', k = k' + 2 := ⟨k - 2, by omega⟩
    have hl := h.len
    have hfi : fr < i := by rcases hn with h_ | h_; exact absurd rfl h_; exact h_
    have hj : lang_ruler_number.j1 (k + 1) fr v false s i 0 false false = some (((val v [] : Nat) : Int), s, ((i + 0 : Nat) : Int), 0, false, false) → True := fun _ => trivial
    have he : ∀ b, b = false → lang_ruler_number.j1 (k + 1) fr v b s i 0 false false = some (((val v [] : Nat) : Int), s, ((i + 0 : Nat) : Int), 0, false, false) := by
      intro b hb
      rw [lang_ruler_number.j1, if_neg (by rw [hb]; decide), if_neg (by omega)]
      rfl
    rw [lang_ruler_number.l0]
    cases r with
    | nil =>
      have : i = s.size := by simpa using hl
      rw [if_neg (by omega)]
      exact he _ rfl
    | cons c r =>
      obtain ⟨hi, hb⟩ := At.get (c := c) (r := r) h
      rw [if_pos (by omega), if_pos (by omega), hb, digit_f]
      simp only [Option.bind_some]
      exact he _ (decide_eq_false (hr c (by simp)))
  | c :: ds, v, i, k, h, hd, hf, hz, hn, hv, hk => by
    rw [List.length_cons] at hk
    obtain ⟨k, rfl⟩ : ∃ k', k = k' + 2 := ⟨k - 2, by omega⟩
    obtain ⟨hi, hb⟩ := At.get (c := c) (r := ds ++ r) h
    have hnx := At.next (a := [c]) (b := ds ++ r) h
    have hs := h.2.2
    have hc := hd c (by simp)
    have hv1 : val (10 * v + (c.toNat - 48)) ds ≤ 1000000000 := hv
    have hv2 := val_le ds (10 * v + (c.toNat - 48))
    have hstep : mn (wrap64 ((wrap64 (10 * (v : Int))) + (((bt s (i : Int)) - 48) % 256))) 10000000000 = ((10 * v + (c.toNat - 48) : Nat) : Int) := by
      have e0 : ((c.toNat : Int) - 48) % 256 = (c.toNat : Int) - 48 := by have := c.toNat_lt; omega
      rw [hb, e0, wr_id (n := 10 * (v : Int)) (by omega) (by omega), wr_id (by omega) (by omega)]
      unfold mn
      rw [if_neg (by omega)]
      omega
    have ih := number_l s fr r hr ds (10 * v + (c.toNat - 48)) (i + 1) k hnx (fun c' hc' => hd c' (by simp [hc'])) (by omega) (fun h_ => hz (.inl (by
      rcases h_ with h_ | ⟨_, h_⟩
      · rw [List.length_cons]; omega
      · cases ds with
        | nil => exact absurd rfl h_
        | cons c' ds => rw [List.length_cons, List.length_cons]; omega))) (.inr (by omega)) hv1 (by omega)
    rw [lang_ruler_number.l0, if_pos (by omega), if_pos (by omega), hb, digit_f, decide_eq_true hc]
    simp only [Option.bind_some]
    have hgo : lang_ruler_number.l0 k fr (mn (wrap64 ((wrap64 (10 * (v : Int))) + (((bt s (i : Int)) - 48) % 256))) 10000000000) s (wrap64 ((i : Int) + 1)) 0 false false = some (((val v (c :: ds) : Nat) : Int), s, ((i + (c :: ds).length : Nat) : Int), 0, false, false) := by
      rw [hstep, wr_id (by omega) (by omega), List.length_cons, show ((i + (ds.length + 1) : Nat) : Int) = ((i + 1 + ds.length : Nat) : Int) by omega]
      exact ih
    rw [lang_ruler_number.j1, if_pos rfl]
    by_cases hfi : fr < i
    · rw [if_pos (by omega), if_pos (by omega), if_pos (by omega), if_neg (hz (.inr ⟨hfi, by simp⟩)), if_pos (by omega), if_pos (by omega)]
      exact hgo
    · rw [if_neg (by omega), if_pos (by omega), if_pos (by omega)]
      exact hgo
theorem dec_all : ∀ (u : Nat), ∀ c ∈ Lib.decDigits u, 48 ≤ c.toNat ∧ c.toNat ≤ 57 := by
  intro u
  induction u using Nat.strongRecOn with
  | _ u ih =>
    intro c hc
    rw [Lib.decDigits] at hc
    split at hc
    · rw [List.mem_singleton] at hc; rw [hc, UInt8.toNat_ofNat']; omega
    · rcases List.mem_append.1 hc with h | h
      · exact ih _ (by omega) c h
      · rw [List.mem_singleton] at h; rw [h, UInt8.toNat_ofNat']; omega
theorem dec_val : ∀ (u : Nat), val 0 (Lib.decDigits u) = u := by
  intro u
  induction u using Nat.strongRecOn with
  | _ u ih =>
    rw [Lib.decDigits]
    split
    · unfold val val; rw [UInt8.toNat_ofNat']; omega
    · rw [val_append, ih _ (by omega)]; unfold val val; rw [UInt8.toNat_ofNat']; omega
theorem dec_ne (u : Nat) : Lib.decDigits u ≠ [] := by
  rw [Lib.decDigits]
  split <;> simp
theorem dec_head : ∀ (u : Nat), 0 < u → ∃ c l, Lib.decDigits u = c :: l ∧ c.toNat ≠ 48 := by
  intro u
  induction u using Nat.strongRecOn with
  | _ u ih =>
    intro h0
    rw [Lib.decDigits]
    split
    · exact ⟨_, [], rfl, by rw [UInt8.toNat_ofNat']; omega⟩
    · obtain ⟨c, l, e, hc⟩ := ih (u / 10) (by omega) (by omega)
      exact ⟨c, _, by rw [e]; rfl, hc⟩
theorem dec_len : ∀ (n u : Nat), u < 10 ^ (n + 1) → (Lib.decDigits u).length ≤ n + 1
  | 0, u, h => by rw [Lib.decDigits, dif_pos (by simpa using h)]; simp
  | n + 1, u, h => by
    rw [Lib.decDigits]
    split
    · simp
    · rw [List.length_append]
      have := dec_len n (u / 10) (by rw [Nat.div_lt_iff_lt_mul (by omega)]; rw [Nat.pow_succ] at h; exact h)
      simp; omega
theorem number_at (n : Int) (h0 : 0 ≤ n) (h1 : n ≤ 1000000000) (h : At s i (Lib.itoa n ++ r)) (hr : NoDig r) : lang_ruler_number.f 300 s i 0 false false = some (n, s, ((i + (Lib.itoa n).length : Nat) : Int), 0, false, false) := by
  have e : Lib.itoa n = Lib.decDigits n.toNat := by unfold Lib.itoa; rw [if_neg (by omega)]
  rw [e] at h ⊢
  have hv := dec_val n.toNat
  have hl := dec_len 9 n.toNat (by omega)
  unfold lang_ruler_number.f
  have := number_l s i r hr (Lib.decDigits n.toNat) 0 i 300 h (dec_all _) (Nat.le_refl _) (fun h_ => by
    rcases Nat.eq_zero_or_pos n.toNat with hz | hz
    · rw [hz] at h_
      rcases h_ with h_ | ⟨h_, _⟩
      · have : (Lib.decDigits 0).length = 1 := by rw [Lib.decDigits]; rfl
        omega
      · omega
    · obtain ⟨c, l, e2, hc⟩ := dec_head _ hz
      rw [e2] at h
      have := (At.get (c := c) (r := l ++ r) h).2
      rw [this]
      omega) (.inl (dec_ne _)) (by rw [hv]; omega) (by omega)
  rw [hv] at this
  rw [show ((n.toNat : Nat) : Int) = n by omega] at this
  exact this
end
end Go.Proofs.YtilmjckpphlniaaDoor.PRuleRound
