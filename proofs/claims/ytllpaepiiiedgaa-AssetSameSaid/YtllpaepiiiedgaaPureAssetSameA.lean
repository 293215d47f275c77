/- Tokens as plain lists of bytes: which are right by themselves and beside each other, what is left of them when those that mean nothing are left out, and that this is so once for all. -/
import Derived.Test.YtllpaepiiiedgaaPAssetSamex0
import Derived.Lib.IndexMore
import Derived.Lib.IndexBytes
namespace Go.Proofs.Ytllpaepiiiedgaa.PAssetSame
open Go.RowKit
set_option linter.unusedVariables false
set_option linter.unusedSimpArgs false
/-! ### bytes -/
def isB (c : UInt8) : Bool := c == 32 || c == 9 || c == 10
def badB (c : UInt8) : Bool := (c < 32 && c != 9 && c != 10) || c == 127
def quo (c : UInt8) : Bool := c == 34 || c == 39
def wrd (c : UInt8) : Bool := (97 ≤ c && c ≤ 122) || (65 ≤ c && c ≤ 90) || (48 ≤ c && c ≤ 57) || c == 95 || c == 36 || 128 ≤ c
def mrk (b : Bool) (c : UInt8) : Bool := if b then !wrd c else ([123, 125, 40, 41, 91, 93, 59, 58, 44, 62] : List UInt8).contains c
/-- no comment begins here -/
def noCmt (b : Bool) (L : List UInt8) : Bool := !(L.take 2 == [47, 42]) && !(b && L.take 2 == [47, 47])
/-- a token that is no word begins here -/
def beg (b : Bool) : List UInt8 → Bool
  | [] => true
  | c :: R => isB c || quo c || mrk b c || !noCmt b (c :: R) || badB c
/-- how many bytes a string takes behind its opening sign -/
def scan (q : UInt8) : List UInt8 → Option Nat
  | [] => none
  | c :: r => if c = 10 then none else if c = q then some 1 else if c = 92 then
      (match r with
      | [] => none
      | d :: r' => if d = 10 then none else (scan q r').map (· + 2))
    else (scan q r).map (· + 1)
abbrev tx (t : S33) : List UInt8 := t.f1.data.toList
/-- a token that is right by itself -/
def Valid (b : Bool) (t : S33) : Prop :=
  (t.f0 = 4 ∧ tx t = [32]) ∨ (t.f0 = 3 ∧ ∃ c, tx t = [c] ∧ badB c = false ∧ isB c = false ∧ quo c = false ∧ mrk b c = true) ∨
  (t.f0 = 2 ∧ ∃ q U, tx t = q :: U ∧ quo q = true ∧ scan q U = some U.length ∧ ∀ c ∈ tx t, badB c = false) ∨
  (t.f0 = 1 ∧ tx t ≠ [] ∧ ∀ j, j < (tx t).length → beg b ((tx t).drop j) = false)
/-- two tokens may stand side by side -/
def ok2 (b : Bool) (t u : S33) : Prop :=
  (t.f0 = 1 → u.f0 ≠ 1) ∧ (t.f0 = 4 → u.f0 ≠ 4) ∧ (b = true → t.f0 = 3 → tx t = [47] → u.f0 = 3 → tx u ≠ [42] ∧ tx u ≠ [47])
def Ch (b : Bool) : Option S33 → List S33 → Prop
  | _, [] => True
  | none, t :: r => Ch b (some t) r
  | some p, t :: r => ok2 b p t ∧ Ch b (some t) r
/-! ### what is left out -/
def am (ms : List UInt8) (t : S33) : Bool := t.f0 == 3 && t.f1.size == 1 && Lib.contains ms (tx t)
def mA : List UInt8 := [123, 125, 59, 58, 44, 62]
def mB : List UInt8 := [123, 125, 59, 44, 62]
/-- the next token that is neither a blank nor a ; is the end of the block, or there is none -/
def en : List S33 → Bool
  | [] => true
  | t :: r => if t.f0 = 4 then en r else if am [59] t = true then en r else am [125] t
def ndd (kind : Int) (a b : S33) : Bool := if kind = 1 then !am mA a && !am mB b else a.f0 == b.f0 && (a.f0 == 1 || a.f0 == 3)
def keep (kind : Int) (p : Option S33) (t : S33) (r : List S33) : Bool :=
  if t.f0 = 4 then (match p, r with | some a, c :: _ => ndd kind a c | _, _ => false) else !(kind == 1 && am [59] t && en r)
def smR (kind : Int) : Option S33 → List S33 → List S33
  | _, [] => []
  | p, t :: r => if keep kind p t r = true then t :: smR kind (some t) r else smR kind (some t) r
theorem ib_pos {ms : List UInt8} {c : UInt8} : (0 ≤ Lib.indexByte ms c) ↔ c ∈ ms := by
  induction ms with
  | nil => simp [Lib.indexByte]
  | cons m ms ih =>
    have hg : -1 ≤ Lib.indexByte ms c := Lib.index_one ms c ▸ Lib.index_ge ms [c]
    rw [Lib.indexByte]
    by_cases h : m = c
    · subst h; simp
    · rw [if_neg (by simpa using h)]
      by_cases e : Lib.indexByte ms c = -1
      · rw [if_pos (by rw [e]; rfl)]
        rw [e] at ih
        have : c ∉ ms := fun hm => absurd (ih.2 hm) (by decide)
        simp [this, Ne.symm h]
      · rw [if_neg (by simpa using e)]
        simp only [List.mem_cons, Ne.symm h, false_or]
        rw [← ih]
        omega
theorem contains_one {ms : List UInt8} {c : UInt8} : Lib.contains ms [c] = ms.contains c := by
  unfold Lib.contains
  rw [Lib.index_one, Bool.eq_iff_iff, decide_eq_true_eq, ib_pos]
  simp
theorem tx_one {t : S33} (h : t.f1.size = 1) : ∃ c, tx t = [c] := by
  have : (tx t).length = 1 := by unfold tx; rw [← Lib.size_eq]; exact h
  exact List.length_eq_one_iff.1 this
theorem am_semi {t : S33} (h : am [59] t = true) : t.f0 = 3 ∧ tx t = [59] ∧ t.f1.size = 1 := by
  unfold am at h
  simp only [Bool.and_eq_true, beq_iff_eq] at h
  obtain ⟨⟨h1, h2⟩, h3⟩ := h
  obtain ⟨c, hc⟩ := tx_one h2
  rw [hc, contains_one] at h3
  refine ⟨h1, ?_, h2⟩
  rw [hc]
  simpa using h3
theorem am_kind {ms : List UInt8} {t : S33} (h : am ms t = true) : t.f0 = 3 := by
  unfold am at h
  simp only [Bool.and_eq_true, beq_iff_eq] at h
  exact h.1.1
theorem am_semi_A {t : S33} (h : am [59] t = true) : am mA t = true := by
  obtain ⟨h1, h2, h3⟩ := am_semi h
  unfold am
  rw [h1, h3, h2, contains_one]
  decide
theorem am_semi_B {t : S33} (h : am [59] t = true) : am mB t = true := by
  obtain ⟨h1, h2, h3⟩ := am_semi h
  unfold am
  rw [h1, h3, h2, contains_one]
  decide
/-! ### leaving out -/
theorem keep_blank {kind : Int} {p : Option S33} {t : S33} {r : List S33} (h4 : t.f0 = 4) : keep kind p t r = (match p, r with | some a, c :: _ => ndd kind a c | _, _ => false) := by unfold keep; rw [if_pos h4]
theorem keep_other {kind : Int} {p : Option S33} {t : S33} {r : List S33} (h4 : t.f0 ≠ 4) : keep kind p t r = !(kind == 1 && am [59] t && en r) := by unfold keep; rw [if_neg h4]
theorem en_blank {t : S33} {r : List S33} (h4 : t.f0 = 4) : en (t :: r) = en r := by rw [en, if_pos h4]
theorem en_semi {t : S33} {r : List S33} (h : am [59] t = true) : en (t :: r) = en r := by
  have := am_kind h
  rw [en, if_neg (by omega), if_pos h]
theorem en_other {t : S33} {r : List S33} (h4 : t.f0 ≠ 4) (h : am [59] t = false) : en (t :: r) = am [125] t := by rw [en, if_neg h4, if_neg (by rw [h]; decide)]
/-- what is left out changes nothing of what comes next -/
theorem en_smR (kind : Int) : ∀ (ts : List S33) (p : Option S33), en (smR kind p ts) = en ts
  | [], _ => rfl
  | t :: r, p => by
    have ih := en_smR kind r (some t)
    rw [smR]
    by_cases h4 : t.f0 = 4
    · rw [en_blank h4]
      split
      · rw [en_blank h4, ih]
      · exact ih
    · by_cases hs : am [59] t = true
      · rw [en_semi hs]
        split
        · rw [en_semi hs, ih]
        · exact ih
      · have hs' : am [59] t = false := by simpa using hs
        rw [en_other h4 hs', keep_other h4, hs']
        simp only [Bool.and_false, Bool.false_and, Bool.not_false, if_true]
        rw [en_other h4 hs']
/-- how far the tokens that are left stand behind those there were: q was left last, p is the one before -/
def St (kind : Int) (q p : Option S33) (ts : List S33) : Prop :=
  q = p ∨ (∃ x, p = some x ∧ kind = 1 ∧ en ts = true ∧ (am [59] x = true ∨ x.f0 = 4)) ∨ (∃ x, p = some x ∧ x.f0 = 4 ∧ ∀ a t r, q = some a → ts = t :: r → ndd kind a t = false)
theorem St.same (kind : Int) (q : Option S33) (ts : List S33) : St kind q q ts := .inl rfl
theorem ndd_no (kind : Int) {a t : S33} (b : Bool) (hb : b = true → kind ≠ 1) (h : ndd kind a t = false) (h4 : t.f0 ≠ 4) : ok2 b a t := by
  unfold ndd at h
  refine ⟨fun h1 h2 => ?_, fun _ => h4, fun h1 h2 h3 h5 => ?_⟩
  · split at h
    · have e1 : am mA a = false := by unfold am; rw [h1]; rfl
      have e2 : am mB t = false := by unfold am; rw [h2]; rfl
      rw [e1, e2] at h
      cases h
    · rw [h1, h2] at h; cases h
  · rw [if_neg (hb h1), h2, h5] at h
    cases h
/-- one step: what becomes of the state, and how the token that is left stands beside the one left before it -/
theorem st_step {kind : Int} {b : Bool} (hb : b = true → kind ≠ 1) {q p : Option S33} {t : S33} {r : List S33} (h : St kind q p (t :: r)) (hc : ∀ a, p = some a → ok2 b a t) :
    (keep kind p t r = true → (∀ a, q = some a → ok2 b a t) ∧ (t.f0 = 4 → q = p)) ∧ (keep kind p t r = false → St kind q (some t) r) := by
  by_cases h4 : t.f0 = 4
  · rw [keep_blank h4]
    rcases h with rfl | ⟨p, rfl, h1, hen, hp⟩ | ⟨p, rfl, hp, hn⟩
    · refine ⟨fun _ => ⟨hc, fun _ => rfl⟩, fun hk => .inr (.inr ⟨t, rfl, h4, fun a c r' e1 e2 => ?_⟩)⟩
      subst e1 e2
      exact hk
    · skip
      have hp' : am [59] p = true := by
        rcases hp with hp | hp
        · exact hp
        · exact absurd h4 ((hc _ rfl).2.1 hp)
      refine ⟨fun hk => ?_, fun _ => .inr (.inl ⟨t, rfl, h1, by rw [en_blank h4] at hen; exact hen, .inr h4⟩)⟩
      cases r with
      | nil => cases hk
      | cons c r' =>
        have hk' : ndd kind p c = true := hk
        unfold ndd at hk'
        rw [if_pos h1, am_semi_A hp'] at hk'
        cases hk'
    · exact absurd h4 ((hc _ rfl).2.1 hp)
  · rw [keep_other h4]
    by_cases hs : am [59] t = true
    · -- a ; of a style
      have hkd : (!(kind == 1 && am [59] t && en r)) = false → kind = 1 ∧ en r = true := fun h => by
        rw [hs] at h
        simpa using h
      refine ⟨fun hk => ⟨?_, fun e => absurd e h4⟩, fun hk => .inr (.inl ⟨t, rfl, (hkd hk).1, (hkd hk).2, .inl hs⟩)⟩
      intro a ha
      rcases h with rfl | ⟨p, rfl, h1, hen, hp⟩ | ⟨p, rfl, hp, hn⟩
      · exact hc a ha
      · rw [en_semi hs] at hen; rw [h1, hs, hen] at hk; cases hk
      · exact ndd_no kind b hb (hn a t r ha rfl) h4
    · have hs' : am [59] t = false := by simpa using hs
      refine ⟨fun _ => ⟨?_, fun e => absurd e h4⟩, fun hk => ?_⟩
      · intro a ha
        rcases h with rfl | ⟨p, rfl, h1, hen, hp⟩ | ⟨p, rfl, hp, hn⟩
        · exact hc a ha
        · skip
          rw [en_other h4 hs'] at hen
          have h3 := am_kind hen
          refine ⟨fun _ e => by omega, fun _ e => by omega, fun e => absurd h1 (hb e)⟩
        · exact ndd_no kind b hb (hn a t r ha rfl) h4
      · rw [hs'] at hk
        simp at hk
theorem ch_cons {b : Bool} {p : Option S33} {t : S33} {r : List S33} (h : Ch b p (t :: r)) : (∀ a, p = some a → ok2 b a t) ∧ Ch b (some t) r := by
  cases p with
  | none => exact ⟨fun a e => (by cases e), h⟩
  | some p => exact ⟨fun a e => (by cases e; exact h.1), h.2⟩
theorem ch_mk {b : Bool} {p : Option S33} {t : S33} {r : List S33} (h1 : ∀ a, p = some a → ok2 b a t) (h2 : Ch b (some t) r) : Ch b p (t :: r) := by
  cases p with
  | none => exact h2
  | some p => exact ⟨h1 p rfl, h2⟩
theorem smR_ch {kind : Int} {b : Bool} (hb : b = true → kind ≠ 1) : ∀ (ts : List S33) (q p : Option S33), St kind q p ts → Ch b p ts → Ch b q (smR kind p ts)
  | [], q, _, _, _ => by cases q <;> trivial
  | t :: r, q, p, hs, hc => by
    obtain ⟨h1, h2⟩ := ch_cons hc
    obtain ⟨k1, k2⟩ := st_step hb hs h1
    rw [smR]
    split
    · rename_i hk
      exact ch_mk (k1 hk).1 (smR_ch hb r _ _ (St.same _ _ _) h2)
    · rename_i hk
      exact smR_ch hb r _ _ (k2 (by simpa using hk)) h2
theorem smR_sub {kind : Int} : ∀ (ts : List S33) (p : Option S33), ∀ t ∈ smR kind p ts, t ∈ ts
  | [], _, t, h => h
  | x :: r, p, t, h => by
    rw [smR] at h
    split at h
    · rcases List.mem_cons.1 h with e | e
      · exact e ▸ List.mem_cons_self
      · exact List.mem_cons_of_mem _ (smR_sub r _ t e)
    · exact List.mem_cons_of_mem _ (smR_sub r _ t h)
/-- a kept blank's next token is kept -/
theorem smR_next {kind : Int} {a t : S33} {c : S33} {r : List S33} (h4 : t.f0 = 4) (hn : ndd kind a c = true) (hc : c.f0 ≠ 4) : smR kind (some t) (c :: r) = c :: smR kind (some c) r := by
  rw [smR, if_pos]
  rw [keep_other hc]
  by_cases h1 : kind = 1
  · have : am [59] c = false := by
      by_cases e : am [59] c = true
      · unfold ndd at hn; rw [if_pos h1, am_semi_B e] at hn; simp at hn
      · simpa using e
    rw [this]; simp
  · have : (kind == 1) = false := by simpa using h1
    rw [this]; rfl
/-- once is enough -/
theorem smR_again {kind : Int} {b : Bool} (hb : b = true → kind ≠ 1) : ∀ (ts : List S33) (q p : Option S33), St kind q p ts → Ch b p ts → smR kind q (smR kind p ts) = smR kind p ts
  | [], q, _, _, _ => by cases q <;> rfl
  | t :: r, q, p, hs, hc => by
    obtain ⟨h1, h2⟩ := ch_cons hc
    obtain ⟨k1, k2⟩ := st_step hb hs h1
    rw [smR]
    split
    · rename_i hk
      have ih := smR_again hb r (some t) (some t) (St.same _ _ _) h2
      have hkeep : keep kind q t (smR kind (some t) r) = true := by
        by_cases h4 : t.f0 = 4
        · have hq := (k1 hk).2 h4
          subst hq
          rw [keep_blank h4] at hk ⊢
          cases q with
          | none => cases hk
          | some a =>
            cases r with
            | nil => cases hk
            | cons c r' =>
              have hc4 : c.f0 ≠ 4 := (h2.1).2.1 h4
              rw [smR_next h4 hk hc4]
              exact hk
        · rw [keep_other h4] at hk ⊢
          rw [en_smR]
          exact hk
      rw [smR, if_pos hkeep, ih]
    · rename_i hk
      exact smR_again hb r _ _ (k2 (by simpa using hk)) h2
/-- all together: what is left of right tokens is right, and nothing more is left out of it -/
theorem small_ok {kind : Int} {b : Bool} (hb : b = true → kind ≠ 1) {ts : List S33} (hv : ∀ t ∈ ts, Valid b t) (hc : Ch b none ts) :
    (∀ t ∈ smR kind none ts, Valid b t) ∧ Ch b none (smR kind none ts) ∧ smR kind none (smR kind none ts) = smR kind none ts :=
  ⟨fun t h => hv t (smR_sub ts none t h), smR_ch hb ts none none (St.same _ _ _) hc, smR_again hb ts none none (St.same _ _ _) hc⟩
def total (ts : List S33) : Nat := (ts.map fun t => (tx t).length).sum
theorem smR_total (kind : Int) : ∀ (ts : List S33) (p : Option S33), total (smR kind p ts) ≤ total ts
  | [], _ => Nat.le_refl _
  | t :: r, p => by
    have ih := smR_total kind r (some t)
    rw [smR]
    unfold total at *
    split <;> simp only [List.map_cons, List.sum_cons] <;> omega
end Go.Proofs.Ytllpaepiiiedgaa.PAssetSame
