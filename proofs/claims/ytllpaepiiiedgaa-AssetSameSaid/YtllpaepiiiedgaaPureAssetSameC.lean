/- The scanner's pieces: each comes to an end, and what it says of the bytes. -/
import Derived.Test.YtllpaepiiiedgaaPureAssetSameB
namespace Go.Proofs.Ytllpaepiiiedgaa.PAssetSame
open Go.RowKit Go.Proofs.YtllpaepiiiedgaaW.PrintWords Go.Proofs.YtllpaepiiiedgaaW.PrintLast Go.Proofs.YtllpaepiiiedgaaW.PrintMore
set_option linter.unusedVariables false
set_option linter.unusedSimpArgs false
theorem Ev.pos {α : Type} {g : Nat → Option α} {r : α} (h : ∀ k, g (k + 1) = some r) : Ev g r :=
  ⟨1, fun k hk => by obtain ⟨m, rfl⟩ : ∃ m, k = m + 1 := ⟨k - 1, by omega⟩; exact h m⟩
/-- neither a blank nor a comment begins -/
def stop (b : Bool) (L : List UInt8) : Prop := ∃ c R, L = c :: R ∧ isB c = false ∧ noCmt b L = true
theorem blank_eq {s : ByteArray} (b : Bool) (l : List S72) (hs : s.size ≤ 20000) {i : Nat} {c : UInt8} {R : List UInt8} (hd : (by_ s).drop i = c :: R) (k : Nat) :
    asset_scanner_blank.l0 (k + 1) (i : Int) s b l = if isB c = true then asset_scanner_blank.l0 k ((i + 1 : Nat) : Int) s b l else
      (asset_scanner_comment.f k s b l (i : Int)).bind fun t => if t.1 < 0 then some ((i : Int), 0, 0, t.2.1, t.2.2) else if t.1 > (t.2.1.size : Int) then some (0, (i : Int), 8, t.2.1, t.2.2) else
        (asset_scanner_checked.f k t.2.1 t.2.2 l (i : Int) t.1).bind fun u => if u.1 ≥ 0 then some (0, u.1, 9, u.2.1, u.2.2) else asset_scanner_blank.l0 k t.1 u.2.1 u.2.2 l := by
  obtain ⟨h1, h2, h3⟩ := bt_cons hd
  have hw : wrap64 ((i : Int) + 1) = ((i + 1 : Nat) : Int) := by unfold wrap64; omega
  rw [asset_scanner_blank.l0, if_pos (by omega), if_pos (by omega), h2, isBlank_eq, hw]
  rfl
theorem blank_ex {s : ByteArray} (b : Bool) (l : List S72) (hs : s.size ≤ 20000) : ∀ (n i : Nat), i ≤ s.size → s.size - i ≤ n → ∃ e p er : Int, Ev (fun k => asset_scanner_blank.l0 k (i : Int) s b l) (e, p, er, s, b) ∧
    (er = 0 → ∃ e' : Nat, e = (e' : Int) ∧ i ≤ e' ∧ e' ≤ s.size ∧ (e' = s.size ∨ stop b ((by_ s).drop e')) ∧ (e' = i → i = s.size ∨ stop b ((by_ s).drop i)))
  | n, i, hi, hn => by
    by_cases he : i = s.size
    · refine ⟨i, 0, 0, Ev.pos (fun k => by rw [asset_scanner_blank.l0, if_neg (by omega)]), fun _ => ⟨i, rfl, Nat.le_refl _, hi, .inl he, fun _ => .inl he⟩⟩
    · obtain ⟨c, R, hd⟩ := drop_lt (s := s) (i := i) (by omega)
      obtain ⟨m, rfl⟩ : ∃ m, n = m + 1 := ⟨n - 1, by omega⟩
      by_cases hB : isB c = true
      · obtain ⟨e, p, er, h, hx⟩ := blank_ex b l hs m (i + 1) (by omega) (by omega)
        refine ⟨e, p, er, Ev.step (fun k => by rw [blank_eq b l hs hd, if_pos hB]) h, fun h0 => ?_⟩
        obtain ⟨e', h1, h2, h3, h4, h5⟩ := hx h0
        exact ⟨e', h1, by omega, h3, h4, fun e => by omega⟩
      · have hB' : isB c = false := by simpa using hB
        by_cases hC : noCmt b ((by_ s).drop i) = true
        · have hst : stop b ((by_ s).drop i) := ⟨c, R, hd, hB', hC⟩
          refine ⟨i, 0, 0, ?_, fun _ => ⟨i, rfl, Nat.le_refl _, hi, .inr hst, fun _ => .inr hst⟩⟩
          refine Ev.step (fun k => by rw [blank_eq b l hs hd, if_neg hB]) ?_
          refine Ev.bind (Ev.pos (cmt_no l hi hC)) ?_
          exact Ev.congr (fun k => by rw [if_pos (show (-1 : Int) < 0 by decide)]) (Ev.now _)
        · obtain ⟨r, hr, hc⟩ := cmt_yes (b := b) l hi hs (by simpa using hC)
          by_cases hbig : s.size < r
          · refine ⟨0, i, 8, ?_, fun h => by cases h⟩
            refine Ev.step (fun k => by rw [blank_eq b l hs hd, if_neg hB]) ?_
            refine Ev.bind (Ev.pos hc) ?_
            exact Ev.congr (fun k => by rw [if_neg (by simp only []; omega), if_pos (by simp only []; omega)]) (Ev.now _)
          · obtain ⟨u, hu, hx⟩ := checked_ex b l hs r (by omega) (r - i) i (by omega)
            by_cases hu0 : u ≥ 0
            · refine ⟨0, u, 9, ?_, fun h => by cases h⟩
              refine Ev.step (fun k => by rw [blank_eq b l hs hd, if_neg hB]) ?_
              refine Ev.bind (Ev.pos hc) ?_
              refine Ev.congr (fun k => by rw [if_neg (by simp only []; omega), if_neg (by simp only []; omega)]) ?_
              refine Ev.bind (f := fun k (u : Int × ByteArray × Bool) => if u.1 ≥ 0 then some ((0 : Int), u.1, (9 : Int), u.2.1, u.2.2) else asset_scanner_blank.l0 k (r : Int) u.2.1 u.2.2 l) hu ?_
              exact Ev.congr (fun k => by rw [if_pos hu0]) (Ev.now _)
            · obtain ⟨e, p, er, h, hx2⟩ := blank_ex b l hs m r (by omega) (by omega)
              refine ⟨e, p, er, ?_, fun h0 => ?_⟩
              · refine Ev.step (fun k => by rw [blank_eq b l hs hd, if_neg hB]) ?_
                refine Ev.bind (Ev.pos hc) ?_
                refine Ev.congr (fun k => by rw [if_neg (by simp only []; omega), if_neg (by simp only []; omega)]) ?_
                refine Ev.bind (f := fun k (u : Int × ByteArray × Bool) => if u.1 ≥ 0 then some ((0 : Int), u.1, (9 : Int), u.2.1, u.2.2) else asset_scanner_blank.l0 k (r : Int) u.2.1 u.2.2 l) hu ?_
                exact Ev.congr (fun k => by rw [if_neg hu0]) h
              · obtain ⟨e', h1, h2, h3, h4, h5⟩ := hx2 h0
                exact ⟨e', h1, by omega, h3, h4, fun e => by omega⟩
/-- one blank alone -/
theorem blank_one {s : ByteArray} (b : Bool) (l : List S72) (hs : s.size ≤ 20000) {i : Nat} {R : List UInt8} (hd : (by_ s).drop i = 32 :: R) (hR : R = [] ∨ stop b R) :
    Ev (fun k => asset_scanner_blank.l0 k (i : Int) s b l) (((i + 1 : Nat) : Int), 0, 0, s, b) := by
  obtain ⟨h1, h2, h3⟩ := bt_cons hd
  refine Ev.step (fun k => by rw [blank_eq b l hs hd, if_pos (by decide)]) ?_
  rcases hR with rfl | ⟨c, R', rfl, hB, hC⟩
  · have : i + 1 = s.size := by
      have := congrArg List.length h3
      rw [List.length_drop, by_len] at this
      simp at this
      omega
    exact Ev.pos (fun k => by rw [asset_scanner_blank.l0, if_neg (by omega)])
  · refine Ev.step (fun k => by rw [blank_eq b l hs h3, if_neg (by rw [hB]; decide)]) ?_
    refine Ev.bind (Ev.pos (cmt_no l (by omega) (by rw [h3]; exact hC))) ?_
    exact Ev.congr (fun k => by rw [if_pos (show (-1 : Int) < 0 by decide)]) (Ev.now _)
/-! ### strings -/
theorem scan_cons (q c : UInt8) (r : List UInt8) : scan q (c :: r) = if c = 10 then none else if c = q then some 1 else if c = 92 then
      (match r with
      | [] => none
      | d :: r' => if d = 10 then none else (scan q r').map (· + 2))
    else (scan q r).map (· + 1) := by
  rw [scan.eq_def]
  rfl
def scanned (p : Nat) : Option Nat → Int
  | some m => ((p + m : Nat) : Int)
  | none => -1
theorem u8_eq {c d : UInt8} : (c.toNat : Int) = (d.toNat : Int) ↔ c = d := ⟨fun h => UInt8.toNat_inj.1 (by omega), fun h => by rw [h]⟩
def nxt {α : Type} (R : List UInt8) (A B : α) : α := match R with | [] => A | d :: _ => if d = 10 then A else B
theorem text_eq {s : ByteArray} (b : Bool) (l : List S72) (hs : s.size ≤ 20000) {p : Nat} {c q : UInt8} {R : List UInt8} (hd : (by_ s).drop p = c :: R) (k : Nat) :
    asset_scanner_text.l0 (k + 1 + 1) (p : Int) (q.toNat : Int) s b l = if c = 10 then some (-1, s, b) else if c = q then some (((p + 1 : Nat) : Int), s, b) else if c = 92 then
      nxt R (asset_scanner_text.l0 k ((p + 1 : Nat) : Int) (q.toNat : Int) s b l) (asset_scanner_text.l0 k ((p + 2 : Nat) : Int) (q.toNat : Int) s b l)
    else asset_scanner_text.l0 k ((p + 1 : Nat) : Int) (q.toNat : Int) s b l := by
  obtain ⟨h1, h2, h3⟩ := bt_cons hd
  have hw : wrap64 ((p : Int) + 1) = ((p + 1 : Nat) : Int) := by unfold wrap64; omega
  have hw2 : wrap64 (((p + 1 : Nat) : Int) + 1) = ((p + 2 : Nat) : Int) := by unfold wrap64; omega
  rw [asset_scanner_text.l0, if_pos (by omega), if_pos (by omega), asset_scanner_text.j1, h2, hw, hw2]
  by_cases h10 : c = 10
  · rw [if_pos h10, if_neg (by rw [h10]; decide)]
  · have : ((c.toNat : Int) != 10) = true := bne_iff_ne.2 (fun e => h10 ((u8_eq (d := 10)).1 e))
    rw [if_neg h10, if_pos this, if_pos (by omega), if_pos (by omega)]
    by_cases hq : c = q
    · rw [if_pos hq, if_pos (by rw [hq])]
    · rw [if_neg hq, if_neg (fun e => hq (u8_eq.1 e))]
      by_cases h92 : c = 92
      · rw [if_pos h92, if_pos (by rw [h92]; rfl)]
        cases R with
        | nil =>
          have : p + 1 = s.size := by
            have := congrArg List.length h3
            rw [List.length_drop, by_len] at this
            simp at this
            omega
          rw [if_neg (by omega)]
          rfl
        | cons d R' =>
          obtain ⟨g1, g2, g3⟩ := bt_cons h3
          rw [if_pos (by omega), if_pos (by omega), g2]
          unfold nxt
          by_cases hd10 : d = 10
          · rw [if_pos (show (d.toNat : Int) = 10 by rw [hd10]; rfl)]
            simp only [if_pos hd10]
          · rw [if_neg (show ¬ (d.toNat : Int) = 10 from fun e => hd10 ((u8_eq (d := 10)).1 e))]
            simp only [if_neg hd10]
      · rw [if_neg h92, if_neg (show ¬ (c.toNat : Int) = 92 from fun e => h92 ((u8_eq (d := 92)).1 e))]
theorem Ev.step2 {α : Type} {g f : Nat → Option α} {r : α} (h : ∀ k, g (k + 1 + 1) = f k) (k : Ev f r) : Ev g r := Ev.step (f := fun k => g (k + 1)) (fun _ => rfl) (Ev.step h k)
theorem text_ex {s : ByteArray} (b : Bool) (l : List S72) (hs : s.size ≤ 20000) (q : UInt8) : ∀ (n p : Nat), p ≤ s.size → s.size - p ≤ n → Ev (fun k => asset_scanner_text.l0 k (p : Int) (q.toNat : Int) s b l) (scanned p (scan q ((by_ s).drop p)), s, b)
  | n, p, hp, hn => by
    by_cases he : p = s.size
    · rw [drop_end (by omega), scan]
      exact Ev.step2 (fun k => by rw [asset_scanner_text.l0, if_neg (by omega), asset_scanner_text.j1, if_neg Bool.false_ne_true]; rfl) (Ev.now _)
    · obtain ⟨c, R, hd⟩ := drop_lt (s := s) (i := p) (by omega)
      obtain ⟨m, rfl⟩ : ∃ m, n = m + 1 := ⟨n - 1, by omega⟩
      obtain ⟨h1, h2, h3⟩ := bt_cons hd
      rw [hd, scan_cons]
      by_cases h10 : c = 10
      · rw [if_pos h10]
        exact Ev.step2 (fun k => by rw [text_eq b l hs hd, if_pos h10]; rfl) (Ev.now _)
      · rw [if_neg h10]
        by_cases hq : c = q
        · rw [if_pos hq]
          exact Ev.step2 (fun k => by rw [text_eq b l hs hd, if_neg h10, if_pos hq]; rfl) (Ev.now _)
        · rw [if_neg hq]
          have ih1 := text_ex b l hs q m (p + 1) (by omega) (by omega)
          rw [h3] at ih1
          by_cases h92 : c = 92
          · rw [if_pos h92]
            cases R with
            | nil =>
              exact Ev.step2 (fun k => by rw [text_eq b l hs hd, if_neg h10, if_neg hq, if_pos h92]; rfl) ih1
            | cons d R' =>
              obtain ⟨g1, g2, g3⟩ := bt_cons h3
              by_cases hd10 : d = 10
              · refine Ev.step2 (f := fun k => asset_scanner_text.l0 k ((p + 1 : Nat) : Int) (q.toNat : Int) s b l) (fun k => by rw [text_eq b l hs hd, if_neg h10, if_neg hq, if_pos h92]; unfold nxt; simp only [if_pos hd10]) ?_
                rw [scan_cons, if_pos hd10] at ih1
                simp only [if_pos hd10]
                exact ih1
              · have ih2 := text_ex b l hs q m (p + 2) (by omega) (by omega)
                rw [g3] at ih2
                refine Ev.step2 (f := fun k => asset_scanner_text.l0 k ((p + 2 : Nat) : Int) (q.toNat : Int) s b l) (fun k => by rw [text_eq b l hs hd, if_neg h10, if_neg hq, if_pos h92]; unfold nxt; simp only [if_neg hd10]) ?_
                simp only [if_neg hd10]
                have : scanned p ((scan q R').map (· + 2)) = scanned (p + 2) (scan q R') := by
                  cases scan q R' with
                  | none => rfl
                  | some m => simp only [scanned, Option.map_some]; omega
                rw [this]
                exact ih2
          · rw [if_neg h92]
            refine Ev.step2 (fun k => by rw [text_eq b l hs hd, if_neg h10, if_neg hq, if_neg h92]) ?_
            have : scanned p ((scan q R).map (· + 1)) = scanned (p + 1) (scan q R) := by
              cases scan q R with
              | none => rfl
              | some m => simp only [scanned, Option.map_some]; omega
            rw [this]
            exact ih1
/-- a string is found again in front of whatever follows it -/
theorem scan_take (q : UInt8) : ∀ (n : Nat) (L : List UInt8) (m : Nat), L.length ≤ n → scan q L = some m → 1 ≤ m ∧ m ≤ L.length ∧ ∀ R, scan q (L.take m ++ R) = some m
  | n, [], m, _, h => by rw [scan] at h; cases h
  | n, c :: r, m, hn, h => by
    obtain ⟨n, rfl⟩ : ∃ k, n = k + 1 := ⟨n - 1, by simp at hn; omega⟩
    rw [scan_cons] at h
    by_cases h10 : c = 10
    · rw [if_pos h10] at h; cases h
    · rw [if_neg h10] at h
      by_cases hq : c = q
      · rw [if_pos hq] at h
        cases h
        exact ⟨Nat.le_refl _, by simp, fun R => by rw [List.take_succ_cons, List.cons_append, scan_cons, if_neg h10, if_pos hq]⟩
      · rw [if_neg hq] at h
        by_cases h92 : c = 92
        · rw [if_pos h92] at h
          cases r with
          | nil => cases h
          | cons d r' =>
            by_cases hd : d = 10
            · simp only [if_pos hd] at h; cases h
            · simp only [if_neg hd] at h
              obtain ⟨m', hm, rfl⟩ := Option.map_eq_some_iff.1 h
              obtain ⟨h1, h2, h3⟩ := scan_take q n r' m' (by simp at hn; omega) hm
              refine ⟨by omega, by simp; omega, fun R => ?_⟩
              rw [show m' + 2 = m' + 1 + 1 from rfl, List.take_succ_cons, List.take_succ_cons, List.cons_append, List.cons_append, scan_cons, if_neg h10, if_neg hq, if_pos h92]
              simp only [if_neg hd]
              rw [h3]; rfl
        · rw [if_neg h92] at h
          obtain ⟨m', hm, rfl⟩ := Option.map_eq_some_iff.1 h
          obtain ⟨h1, h2, h3⟩ := scan_take q n r m' (by simp at hn; omega) hm
          refine ⟨by omega, by simp; omega, fun R => ?_⟩
          rw [List.take_succ_cons, List.cons_append, scan_cons, if_neg h10, if_neg hq, if_neg h92, h3]; rfl
/-! ### words -/
theorem begins_eq {s : ByteArray} (b : Bool) (l : List S72) (hs : s.size ≤ 20000) {e : Nat} (he : e < s.size) : Ev (fun k => asset_scanner_begins.f k s b l (e : Int)) (beg b ((by_ s).drop e), s, b) := by
  obtain ⟨c, R, hd⟩ := drop_lt he
  obtain ⟨h1, h2, h3⟩ := bt_cons hd
  have hf : ∀ k, asset_scanner_begins.f k s b l (e : Int) = if isB c = true then some (true, s, b) else if c = 34 then some (true, s, b) else if c = 39 then some (true, s, b) else if mrk b c = true then some (true, s, b) else
      (asset_scanner_comment.f k s b l (e : Int)).bind fun t => if t.1 ≥ 0 then some (true, t.2.1, t.2.2) else some (badB c, t.2.1, t.2.2) := fun k => by
    unfold asset_scanner_begins.f
    rw [if_pos (by omega), if_pos (by omega), h2, isBlank_eq, isMark_eq, badByte_eq]
    simp only [Option.bind_some]
    have e1 : ((c.toNat : Int) = 34) = (c = 34) := propext (u8_eq (d := 34))
    have e2 : ((c.toNat : Int) = 39) = (c = 39) := propext (u8_eq (d := 39))
    simp only [e1, e2]
  rw [hd, beg]
  by_cases q1 : isB c = true
  · rw [q1]; exact Ev.congr (fun k => by rw [hf, if_pos q1]; rfl) (Ev.now _)
  · have q1' : isB c = false := by simpa using q1
    by_cases q2 : c = 34
    · have hq : quo c = true := by rw [q2]; rfl
      rw [q1', hq]
      exact Ev.congr (fun k => by rw [hf, if_neg q1, if_pos q2]; rfl) (Ev.now _)
    · by_cases q3 : c = 39
      · have hq : quo c = true := by rw [q3]; rfl
        rw [q1', hq]
        exact Ev.congr (fun k => by rw [hf, if_neg q1, if_neg q2, if_pos q3]; rfl) (Ev.now _)
      · have hq : quo c = false := by unfold quo; simp [q2, q3]
        by_cases q4 : mrk b c = true
        · rw [q1', hq, q4]
          exact Ev.congr (fun k => by rw [hf, if_neg q1, if_neg q2, if_neg q3, if_pos q4]; rfl) (Ev.now _)
        · have q4' : mrk b c = false := by simpa using q4
          rw [q1', hq, q4']
          refine Ev.congr (fun k => by rw [hf, if_neg q1, if_neg q2, if_neg q3, if_neg q4]) ?_
          by_cases q5 : noCmt b ((by_ s).drop e) = true
          · have q6 := q5
            rw [hd] at q6
            rw [q6]
            refine Ev.bind (Ev.pos (cmt_no l (by omega) q5)) ?_
            exact Ev.congr (fun k => by rw [if_neg (show ¬ (-1 : Int) ≥ 0 by decide)]; rfl) (Ev.now _)
          · obtain ⟨r, hr, hc⟩ := cmt_yes (b := b) l (i := e) (by omega) hs (by simpa using q5)
            rw [hd] at q5
            have q5' : noCmt b (c :: R) = false := by simpa using q5
            rw [q5']
            refine Ev.bind (Ev.pos hc) ?_
            exact Ev.congr (fun k => by rw [if_pos (show (r : Int) ≥ 0 by omega)]; rfl) (Ev.now _)
theorem dvWord_ex {s : ByteArray} (b : Bool) (l : List S72) (hs : s.size ≤ 20000) : ∀ (n e : Nat), e ≤ s.size → s.size - e ≤ n → ∃ e' : Nat, Ev (fun k => dvWord k s b l (e : Int)) (e' : Int) ∧ e ≤ e' ∧ e' ≤ s.size ∧ (∀ p, e ≤ p → p < e' → beg b ((by_ s).drop p) = false) ∧ beg b ((by_ s).drop e') = true
  | n, e, he, hn => by
    by_cases hq : e = s.size
    · exact ⟨e, Ev.pos (fun k => by rw [dvWord, if_neg (by omega)]), Nat.le_refl _, he, fun p h1 h2 => by omega, by rw [drop_end (by omega)]; rfl⟩
    · obtain ⟨m, rfl⟩ : ∃ m, n = m + 1 := ⟨n - 1, by omega⟩
      have hb := begins_eq b l hs (e := e) (by omega)
      by_cases h : beg b ((by_ s).drop e) = true
      · refine ⟨e, ?_, Nat.le_refl _, he, fun p h1 h2 => by omega, h⟩
        refine Ev.step (fun k => by rw [dvWord, if_pos (by omega)]) ?_
        refine Ev.bind (f := fun k (t : Bool × ByteArray × Bool) => if t.1 = true then some (e : Int) else dvWord k s b l ((e : Int) + 1)) hb ?_
        exact Ev.congr (fun k => by rw [if_pos h]) (Ev.now _)
      · obtain ⟨e', h1, h2, h3, h4, h5⟩ := dvWord_ex b l hs m (e + 1) (by omega) (by omega)
        refine ⟨e', ?_, by omega, h3, fun p g1 g2 => ?_, h5⟩
        · refine Ev.step (fun k => by rw [dvWord, if_pos (by omega)]) ?_
          refine Ev.bind (f := fun k (t : Bool × ByteArray × Bool) => if t.1 = true then some (e : Int) else dvWord k s b l ((e : Int) + 1)) hb ?_
          exact Ev.congr (fun k => by rw [if_neg h]; rfl) h1
        · by_cases g3 : p = e
          · subst g3; simpa using h
          · exact h4 p (by omega) g2
theorem dvOne_ex {s : ByteArray} (b : Bool) (l : List S72) (hs : s.size ≤ 20000) {i : Nat} {c : UInt8} {R : List UInt8} (hd : (by_ s).drop i = c :: R) : Ev (fun k => dvOne k s b l (i : Int)) (isB c || !noCmt b (c :: R)) := by
  obtain ⟨h1, h2, h3⟩ := bt_cons hd
  have hf : ∀ k, dvOne k s b l (i : Int) = if isB c = true then some true else (asset_scanner_comment.f k s b l (i : Int)).bind fun t => some (decide (t.1 ≥ 0)) := fun k => by
    unfold dvOne
    rw [h2, isBlank_eq]
    rfl
  by_cases q1 : isB c = true
  · rw [q1]; exact Ev.congr (fun k => by rw [hf, if_pos q1]; rfl) (Ev.now _)
  · have q1' : isB c = false := by simpa using q1
    rw [q1']
    refine Ev.congr (fun k => by rw [hf, if_neg q1]) ?_
    by_cases q5 : noCmt b (c :: R) = true
    · rw [q5]
      exact Ev.bind (Ev.pos (cmt_no l (by omega) (by rw [hd]; exact q5))) (Ev.now _)
    · obtain ⟨r, hr, hc⟩ := cmt_yes (b := b) l (i := i) (by omega) hs (by rw [hd]; simpa using q5)
      have q5' : noCmt b (c :: R) = false := by simpa using q5
      rw [q5']
      refine Ev.bind (Ev.pos hc) ?_
      have : decide ((r : Int) ≥ 0) = true := decide_eq_true (by omega)
      exact Ev.congr (fun k => by rw [this]; rfl) (Ev.now _)
end Go.Proofs.Ytllpaepiiiedgaa.PAssetSame
