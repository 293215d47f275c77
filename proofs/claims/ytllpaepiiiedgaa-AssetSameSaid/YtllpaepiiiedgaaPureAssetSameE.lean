/- Right tokens, joined, are divided into just these tokens. -/
import Derived.Test.YtllpaepiiiedgaaPureAssetSameD
namespace Go.Proofs.Ytllpaepiiiedgaa.PAssetSame
open Go.RowKit Go.Proofs.YtllpaepiiiedgaaW.PrintWords Go.Proofs.YtllpaepiiiedgaaW.PrintLast Go.Proofs.YtllpaepiiiedgaaW.PrintMore
set_option linter.unusedVariables false
set_option linter.unusedSimpArgs false
theorem jd_cons (x : S33) (r : List S33) : jdText (x :: r) = tx x ++ jdText r := rfl
theorem s33_ext {a b : S33} (h1 : a.f0 = b.f0) (h2 : tx a = tx b) : a = b := by
  obtain ⟨k, ⟨⟨s⟩⟩⟩ := a
  obtain ⟨m, ⟨⟨t⟩⟩⟩ := b
  have h1' : k = m := h1
  have h2' : s = t := h2
  subst h1'
  subst h2'
  rfl
theorem ch_tail {b : Bool} {x : S33} {r : List S33} (h : Ch b (some x) r) : Ch b none r := by
  cases r with
  | nil => trivial
  | cons u r => exact h.2
theorem noCmt_head {b : Bool} {c : UInt8} {R : List UInt8} (h : c ≠ 47) : noCmt b (c :: R) = true := by
  unfold noCmt
  have : ∀ y : UInt8, ((c :: R).take 2 == [47, y]) = false := fun y => by
    rw [beq_eq_false_iff_ne]
    intro e
    rw [List.take_succ_cons] at e
    injection e with e _
    exact h e
  rw [this, this]
  cases b <;> rfl
theorem noCmt_two {b : Bool} {c y : UInt8} {R : List UInt8} (h1 : y ≠ 42) (h2 : b = true → y ≠ 47) : noCmt b (c :: y :: R) = true := by
  unfold noCmt
  have e1 : ((c :: y :: R).take 2 == [47, 42]) = false := by
    rw [beq_eq_false_iff_ne]
    intro e
    rw [List.take_succ_cons, List.take_succ_cons] at e
    injection e with _ e
    injection e with e _
    exact h1 e
  rw [e1]
  cases b with
  | false => rfl
  | true =>
    have e2 : ((c :: y :: R).take 2 == [47, 47]) = false := by
      rw [beq_eq_false_iff_ne]
      intro e
      rw [List.take_succ_cons, List.take_succ_cons] at e
      injection e with _ e
      injection e with e _
      exact h2 rfl e
    rw [e2]; rfl
theorem noCmt_one {b : Bool} {c : UInt8} : noCmt b [c] = true := by cases b <;> simp [noCmt]
theorem quo_cases {c : UInt8} (h : quo c = true) : c = 34 ∨ c = 39 := by unfold quo at h; simpa using h
/-- the first byte of a right token -/
theorem valid_head {b : Bool} {v : S33} (h : Valid b v) : ∃ y Y, tx v = y :: Y ∧ (v.f0 = 1 → beg b (tx v) = false) ∧ (v.f0 = 4 → y = 32) ∧ (v.f0 = 2 → y = 34 ∨ y = 39) ∧ (v.f0 = 3 → Y = [] ∧ mrk b y = true ∧ isB y = false) ∧ (v.f0 = 1 ∨ v.f0 = 2 ∨ v.f0 = 3 ∨ v.f0 = 4) := by
  rcases h with ⟨h4, h⟩ | ⟨h3, c, h, h1, h2, h5, h6⟩ | ⟨h2, q, U, h, hq, _, _⟩ | ⟨h1, h, hj⟩
  · exact ⟨32, [], h, fun e => by omega, fun _ => rfl, fun e => by omega, fun e => by omega, by omega⟩
  · exact ⟨c, [], h, fun e => by omega, fun e => by omega, fun e => by omega, fun _ => ⟨rfl, h6, h2⟩, by omega⟩
  · exact ⟨q, U, h, fun e => by omega, fun e => by omega, fun _ => quo_cases hq, fun e => by omega, by omega⟩
  · obtain ⟨y, Y, e⟩ : ∃ y Y, tx v = y :: Y := by
      cases hx : tx v with
      | nil => exact absurd hx h
      | cons y Y => exact ⟨y, Y, rfl⟩
    refine ⟨y, Y, e, fun _ => ?_, fun e => by omega, fun e => by omega, fun e => by omega, by omega⟩
    have := hj 0 (by rw [e]; simp)
    rwa [List.drop_zero] at this
/-- what stands behind a word begins anew -/
theorem beg_next {b : Bool} {x : S33} {r : List S33} (hx : x.f0 = 1) (hc : Ch b (some x) r) (hv : ∀ v ∈ r, Valid b v) : beg b (jdText r) = true := by
  cases r with
  | nil => rfl
  | cons v r' =>
    obtain ⟨y, Y, e, _, e4, e2, e3, ek⟩ := valid_head (hv v List.mem_cons_self)
    have hk : v.f0 ≠ 1 := hc.1.1 hx
    rw [jd_cons, e, List.cons_append, beg_cons]
    rcases ek with k | k | k | k
    · exact absurd k hk
    · rcases e2 k with q | q <;> (rw [q]; simp [quo])
    · rw [(e3 k).2.1]; simp
    · rw [e4 k]; simp [isB]
/-- no comment arises where tokens meet -/
theorem meet_noCmt {b : Bool} {x : S33} {r : List S33} {c : UInt8} (hx : (x.f0 = 1 ∧ mrk b c = false) ∨ (x.f0 = 3 ∧ tx x = [c] ∧ mrk b c = true)) (hc : Ch b (some x) r) (hv : ∀ v ∈ r, Valid b v) : noCmt b (c :: jdText r) = true := by
  by_cases h47 : c = 47
  · subst h47
    cases r with
    | nil => exact noCmt_one
    | cons v r' =>
      obtain ⟨y, Y, e, e1, e4, e2, e3, ek⟩ := valid_head (hv v List.mem_cons_self)
      rw [jd_cons, e, List.cons_append]
      rcases ek with k | k | k | k
      · -- a word: only behind a mark, in a script
        rcases hx with ⟨q, _⟩ | ⟨q, hq, hm⟩
        · exact absurd k (hc.1.1 q)
        · cases b with
          | false => cases hm
          | true =>
            have hb := e1 k
            rw [e, beg_cons] at hb
            simp only [Bool.or_eq_false_iff] at hb
            have hw : mrk true y = false := hb.1.1.2
            refine noCmt_two (fun h => ?_) (fun _ h => ?_)
            · rw [h] at hw; cases hw
            · rw [h] at hw; cases hw
      · rcases e2 k with q | q <;> (rw [q]; exact noCmt_two (by decide) (fun _ => by decide))
      · obtain ⟨f1, f2, f3⟩ := e3 k
        subst f1
        cases b with
        | false =>
          refine noCmt_two (fun h => ?_) (fun h => by cases h)
          rw [h] at f2; cases f2
        | true =>
          rcases hx with ⟨q, hm⟩ | ⟨q, hq, hm⟩
          · cases hm
          · have := hc.1.2.2 rfl q hq k
            rw [e] at this
            exact noCmt_two (fun h => this.1 (by rw [h])) (fun _ h => this.2 (by rw [h]))
      · rw [e4 k]; exact noCmt_two (by decide) (fun _ => by decide)
  · exact noCmt_head h47
theorem beg_parts {b : Bool} {c : UInt8} {R : List UInt8} (h : beg b (c :: R) = false) : isB c = false ∧ quo c = false ∧ mrk b c = false ∧ noCmt b (c :: R) = true ∧ badB c = false := by
  rw [beg_cons] at h
  simp only [Bool.or_eq_false_iff, Bool.not_eq_false'] at h
  exact ⟨h.1.1.1.1, h.1.1.1.2, h.1.1.2, h.1.2, h.2⟩
theorem beg_mk {b : Bool} {c : UInt8} {R : List UInt8} (h1 : isB c = false) (h2 : quo c = false) (h3 : mrk b c = false) (h4 : noCmt b (c :: R) = true) (h5 : badB c = false) : beg b (c :: R) = false := by
  rw [beg_cons, h1, h2, h3, h4, h5]; rfl
/-- within a word nothing begins, whatever follows the word -/
theorem word_pos {b : Bool} {x : S33} {r : List S33} (hx : x.f0 = 1) (hw : ∀ j, j < (tx x).length → beg b ((tx x).drop j) = false) (hc : Ch b (some x) r) (hv : ∀ v ∈ r, Valid b v) : ∀ j, j < (tx x).length → beg b ((tx x).drop j ++ jdText r) = false := by
  intro j hj
  have h := hw j hj
  rw [List.drop_eq_getElem_cons hj] at h ⊢
  obtain ⟨h1, h2, h3, h4, h5⟩ := beg_parts h
  rw [List.cons_append]
  refine beg_mk h1 h2 h3 ?_ h5
  cases hD : (tx x).drop (j + 1) with
  | nil => rw [List.nil_append]; exact meet_noCmt (.inl ⟨hx, h3⟩) hc hv
  | cons d D =>
    rw [hD] at h4
    unfold noCmt at h4 ⊢
    rw [List.cons_append, List.take_succ_cons, List.take_succ_cons, List.take_zero]
    rw [List.take_succ_cons, List.take_succ_cons, List.take_zero] at h4
    exact h4
theorem relex {s : ByteArray} (b : Bool) (hs : s.size ≤ 20000) : ∀ (ts : List S33) (i : Nat) (l : List S72), (by_ s).drop i = jdText ts → i ≤ s.size → (∀ x ∈ ts, Valid b x) → Ch b none ts → l.length ≤ i →
    ∃ zs : List S72, zs.map (·.f0) = ts ∧ Ev (fun k => dvLoop k s b l (i : Int)) (l ++ zs, 0, 0)
  | [], i, l, hd, hi, _, _, _ => by
    have hq : i = s.size := by
      have := congrArg List.length hd
      rw [List.length_drop, by_len] at this
      simp [jdText] at this
      omega
    exact ⟨[], rfl, Ev.pos (fun k => by rw [dvLoop, if_neg (by omega)]; simp)⟩
  | x :: r, i, l, hd, hi, hv, hc, hl => by
    have hc1 : Ch b (some x) r := hc
    have hvr : ∀ v ∈ r, Valid b v := fun v h => hv v (List.mem_cons_of_mem _ h)
    rw [jd_cons] at hd
    have hdrop : (by_ s).drop (i + (tx x).length) = jdText r := by rw [← List.drop_drop, hd, List.drop_left]
    have hfit : i + (tx x).length ≤ s.size := by
      have := congrArg List.length hd
      rw [List.length_drop, by_len, List.length_append] at this
      omega
    -- the token that is laid is x
    have hsame : ∀ k : Int, x.f0 = k → k ≠ 4 → (addTok s k (i : Int) ((i + (tx x).length : Nat) : Int)).f0 = x := fun k h1 h2 => by
      refine s33_ext h1.symm ?_
      rw [addTok_tx s h2, hd, show i + (tx x).length - i = (tx x).length by omega, List.take_left]
    have go : ∀ (k : Int), (addTok s k (i : Int) ((i + (tx x).length : Nat) : Int)).f0 = x → 1 ≤ (tx x).length → ∃ zs : List S72, zs.map (·.f0) = x :: r ∧ ∃ ys, zs = addTok s k (i : Int) ((i + (tx x).length : Nat) : Int) :: ys ∧
        Ev (fun q => dvLoop q s b (l ++ [addTok s k (i : Int) ((i + (tx x).length : Nat) : Int)]) ((i + (tx x).length : Nat) : Int)) (l ++ zs, 0, 0) := fun k hk h1 => by
      obtain ⟨ys, h2, h3⟩ := relex b hs r (i + (tx x).length) (l ++ [addTok s k (i : Int) ((i + (tx x).length : Nat) : Int)]) hdrop hfit hvr (ch_tail hc1) (by rw [List.length_append, List.length_singleton]; omega)
      exact ⟨_ :: ys, by rw [List.map_cons, hk, h2], ys, rfl, by simpa using h3⟩
    rcases hv x List.mem_cons_self with ⟨h4, ht⟩ | ⟨h3, c, ht, hbad, hB, hq, hm⟩ | ⟨h2, q, U, ht, hq, hsc, hall⟩ | ⟨h1, hne, hw⟩
    · -- a blank
      rw [ht, List.singleton_append] at hd
      have heq := dv_eq b l hs (by omega) hd
      have hlen : (tx x).length = 1 := by rw [ht]; rfl
      obtain ⟨zs, z1, ys, z2, z3⟩ := go 4 (s33_ext h4.symm (by rw [addTok_bl, ht])) (by omega)
      rw [hlen] at z3
      refine ⟨zs, z1, ?_⟩
      have hst : jdText r = [] ∨ stop b (jdText r) := by
        cases r with
        | nil => exact .inl rfl
        | cons u r' =>
          right
          have hu4 : u.f0 ≠ 4 := hc1.1.2.1 h4
          have hvu := hvr u List.mem_cons_self
          have hvr' : ∀ v ∈ r', Valid b v := fun v h => hvr v (List.mem_cons_of_mem _ h)
          obtain ⟨y, Y, e, e1, _, e2, e3, ek⟩ := valid_head hvu
          rw [jd_cons, e, List.cons_append]
          rcases ek with k | k | k | k
          · have hu : ∀ j, j < (tx u).length → beg b ((tx u).drop j) = false := by
              rcases hvu with ⟨q, _⟩ | ⟨q, _⟩ | ⟨q, _⟩ | ⟨_, _, q⟩
              · omega
              · omega
              · omega
              · exact q
            have := word_pos k hu hc1.2 hvr' 0 (by rw [e]; simp)
            rw [List.drop_zero, e, List.cons_append] at this
            obtain ⟨g1, _, _, g4, _⟩ := beg_parts this
            exact ⟨y, _, rfl, g1, g4⟩
          · rcases e2 k with q | q <;> (subst q; exact ⟨_, _, rfl, by decide, noCmt_head (by decide)⟩)
          · obtain ⟨f1, f2, f3⟩ := e3 k
            subst f1
            exact ⟨y, _, rfl, f3, meet_noCmt (.inr ⟨k, e, f2⟩) hc1.2 hvr'⟩
          · exact absurd k hu4
      refine Ev.step (fun k => by rw [heq, if_neg (by decide)]) ?_
      refine Ev.bind (dvOne_ex b l hs hd) ?_
      refine Ev.congr (fun k => by rw [if_pos (show (isB 32 || !noCmt b (32 :: jdText r)) = true by simp [isB])]) ?_
      refine Ev.bind (f := fun k (t : Int × Int × Int × ByteArray × Bool) => if t.2.2.1 = 0 then (if (i : Int) ≤ t.1 ∧ t.1 ≤ (s.size : Int) then dvLoop k s b (l ++ [addTok s 4 (i : Int) t.1]) t.1 else none) else some ([], t.2.1, t.2.2.1)) (blank_one b l hs hd hst) ?_
      exact Ev.congr (fun k => by rw [if_pos rfl, if_pos ⟨by omega, by omega⟩]) z3
    · -- a mark
      rw [ht, List.singleton_append] at hd
      have heq := dv_eq b l hs (by omega) hd
      have hlen : (tx x).length = 1 := by rw [ht]; rfl
      obtain ⟨zs, z1, ys, z2, z3⟩ := go 3 (hsame 3 h3 (by decide)) (by omega)
      rw [hlen] at z3
      refine ⟨zs, z1, ?_⟩
      have hn := meet_noCmt (.inr ⟨h3, ht, hm⟩) hc1 hvr
      refine Ev.step (fun k => by rw [heq, if_neg (by rw [hbad]; decide)]) ?_
      refine Ev.bind (dvOne_ex b l hs hd) ?_
      exact Ev.congr (fun k => by rw [if_neg (show ¬ (isB c || !noCmt b (c :: jdText r)) = true by rw [hB, hn]; decide), if_neg (by rw [hq]; decide), if_pos hm]) z3
    · -- a string
      have hd' := hd
      rw [ht, List.cons_append] at hd
      obtain ⟨b1, b2, b3⟩ := bt_cons hd
      have heq := dv_eq b l hs (by omega) hd
      have hlen : (tx x).length = U.length + 1 := by rw [ht]; rfl
      obtain ⟨zs, z1, ys, z2, z3⟩ := go 2 (hsame 2 h2 (by decide)) (by omega)
      refine ⟨zs, z1, ?_⟩
      have hbad : badB q = false := hall q (by rw [ht]; exact List.mem_cons_self)
      have hqB : isB q = false := by rcases quo_cases hq with e | e <;> (rw [e]; rfl)
      have hqn : noCmt b (q :: (U ++ jdText r)) = true := noCmt_head (by rcases quo_cases hq with e | e <;> (rw [e]; decide))
      obtain ⟨w1, w2, w3⟩ := scan_take q U.length U U.length (Nat.le_refl _) hsc
      have hscan : scan q (U ++ jdText r) = some U.length := by have := w3 (jdText r); rwa [List.take_length] at this
      have htext := text_ex b l hs q (s.size - (i + 1)) (i + 1) (by omega) (Nat.le_refl _)
      rw [b3, hscan] at htext
      obtain ⟨u, hu, hx⟩ := checked_ex b l hs (i + 1 + U.length) (by omega) (1 + U.length) i (by omega)
      have hu1 : u = -1 := by
        rcases hx with ⟨e, _⟩ | ⟨_, d, hd1, hd2⟩
        · exact e
        · rw [hd', show 1 + U.length = (tx x).length by omega, List.take_left] at hd1
          rw [hall d hd1] at hd2
          cases hd2
      have e5 : i + (tx x).length = i + 1 + U.length := by omega
      rw [e5] at z3
      refine Ev.step (fun k => by rw [heq, if_neg (by rw [hbad]; decide)]) ?_
      refine Ev.bind (dvOne_ex b l hs hd) ?_
      refine Ev.congr (fun k => by rw [if_neg (show ¬ (isB q || !noCmt b (q :: (U ++ jdText r))) = true by rw [hqB, hqn]; decide), if_pos hq]) ?_
      refine Ev.bind (f := fun k (t : Int × ByteArray × Bool) => if t.1 < 0 then some ([], (i : Int), 8) else
        (asset_scanner_checked.l0 k t.1 (i : Int) s b l).bind fun u => if u.1 ≥ 0 then some ([], u.1, 9) else
          if (i : Int) ≤ t.1 ∧ t.1 ≤ (s.size : Int) then dvLoop k s b (l ++ [addTok s 2 (i : Int) t.1]) t.1 else none) htext ?_
      refine Ev.congr (fun k => by rw [if_neg (show ¬ scanned (i + 1) (some U.length) < 0 by show ¬ ((i + 1 + U.length : Nat) : Int) < 0; omega)]) ?_
      refine Ev.bind (f := fun k (u : Int × ByteArray × Bool) => if u.1 ≥ 0 then some ([], u.1, 9) else if (i : Int) ≤ ((i + 1 + U.length : Nat) : Int) ∧ ((i + 1 + U.length : Nat) : Int) ≤ (s.size : Int) then dvLoop k s b (l ++ [addTok s 2 (i : Int) ((i + 1 + U.length : Nat) : Int)]) ((i + 1 + U.length : Nat) : Int) else none) hu ?_
      exact Ev.congr (fun k => by rw [if_neg (by omega), if_pos ⟨by omega, by omega⟩]) z3
    · -- a word
      have hd' := hd
      obtain ⟨c, D, ht⟩ : ∃ c D, tx x = c :: D := by
        cases hx : tx x with
        | nil => exact absurd hx hne
        | cons y Y => exact ⟨y, Y, rfl⟩
      have hlen : 1 ≤ (tx x).length := by rw [ht]; simp
      have hwp := word_pos h1 hw hc1 hvr
      have hw0 := hwp 0 (by omega)
      rw [List.drop_zero, ht, List.cons_append] at hw0
      obtain ⟨p1, p2, p3, p4, p5⟩ := beg_parts hw0
      rw [ht, List.cons_append] at hd
      have heq := dv_eq b l hs (by omega) hd
      obtain ⟨zs, z1, ys, z2, z3⟩ := go 1 (hsame 1 h1 (by decide)) hlen
      refine ⟨zs, z1, ?_⟩
      obtain ⟨b1, b2, b3⟩ := bt_cons hd
      obtain ⟨e', w1, w2, w3, w4, w5⟩ := dvWord_ex b l hs (s.size - (i + 1)) (i + 1) (by omega) (Nat.le_refl _)
      have he : e' = i + (tx x).length := by
        by_cases g1 : e' < i + (tx x).length
        · have := hwp (e' - i) (by omega)
          have e3 : (by_ s).drop e' = (tx x).drop (e' - i) ++ jdText r := by
            rw [show e' = i + (e' - i) by omega, ← List.drop_drop, hd', List.drop_append_of_le_length (by omega)]
            rw [show i + (e' - i) - i = e' - i by omega]
          rw [e3, this] at w5
          cases w5
        · by_cases g2 : i + (tx x).length < e'
          · have := w4 (i + (tx x).length) (by omega) g2
            rw [hdrop, beg_next h1 hc1 hvr] at this
            cases this
          · omega
      subst he
      refine Ev.step (fun k => by rw [heq, if_neg (by rw [p5]; decide)]) ?_
      refine Ev.bind (dvOne_ex b l hs hd) ?_
      refine Ev.congr (fun k => by rw [if_neg (show ¬ (isB c || !noCmt b (c :: (D ++ jdText r))) = true by rw [p1, p4]; decide), if_neg (by rw [p2]; decide), if_neg (by rw [p3]; decide)]) ?_
      refine Ev.bind (f := fun k (e : Int) => if (i : Int) ≤ e ∧ e ≤ (s.size : Int) then dvLoop k s b (l ++ [addTok s 1 (i : Int) e]) e else none) w1 ?_
      exact Ev.congr (fun k => by rw [if_pos ⟨by omega, by omega⟩]) z3
end Go.Proofs.Ytllpaepiiiedgaa.PAssetSame
