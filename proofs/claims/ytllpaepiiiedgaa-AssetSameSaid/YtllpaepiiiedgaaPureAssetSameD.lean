/- The scanner as a whole: what it divides is right, and right tokens joined are divided again. -/
import Derived.Test.YtllpaepiiiedgaaPureAssetSameC
namespace Go.Proofs.Ytllpaepiiiedgaa.PAssetSame
open Go.RowKit Go.Proofs.YtllpaepiiiedgaaW.PrintWords Go.Proofs.YtllpaepiiiedgaaW.PrintLast Go.Proofs.YtllpaepiiiedgaaW.PrintMore
set_option linter.unusedVariables false
set_option linter.unusedSimpArgs false
theorem noCmt_take {b : Bool} {L : List UInt8} (m : Nat) (h : noCmt b L = true) : noCmt b (L.take m) = true := by
  unfold noCmt at *
  rw [Bool.and_eq_true, Bool.not_eq_true', Bool.not_eq_true'] at *
  have key : ∀ x y : UInt8, (L.take 2 == [x, y]) = false → ((L.take m).take 2 == [x, y]) = false := fun x y hx => by
    rw [beq_eq_false_iff_ne] at *
    intro e
    apply hx
    rw [List.take_take] at e
    have hl := congrArg List.length e
    rw [List.length_take] at hl
    simp at hl
    have : min 2 m = 2 := by omega
    rw [this] at e
    exact e
  refine ⟨key _ _ h.1, ?_⟩
  cases b with
  | false => rfl
  | true => simp only [Bool.true_and] at *; exact key _ _ h.2
theorem beg_cons (b : Bool) (c : UInt8) (R : List UInt8) : beg b (c :: R) = (isB c || quo c || mrk b c || !noCmt b (c :: R) || badB c) := rfl
theorem beg_take {b : Bool} {L : List UInt8} {m : Nat} (hm : 1 ≤ m) (h : beg b L = false) : beg b (L.take m) = false := by
  cases L with
  | nil => cases h
  | cons c R =>
    obtain ⟨m, rfl⟩ : ∃ k, m = k + 1 := ⟨m - 1, by omega⟩
    have e : (c :: R).take (m + 1) = c :: R.take m := rfl
    have hn : noCmt b (c :: R) = true := by
      rw [beg_cons] at h
      simp only [Bool.or_eq_false_iff, Bool.not_eq_false'] at h
      exact h.1.2
    have h2 := noCmt_take (m + 1) hn
    rw [e] at h2 ⊢
    rw [beg_cons] at h ⊢
    rw [hn] at h
    rw [h2]
    exact h
theorem text_f {s : ByteArray} (b : Bool) (l : List S72) (hs : s.size ≤ 20000) {i : Nat} {c : UInt8} {R : List UInt8} (hd : (by_ s).drop i = c :: R) (k : Nat) :
    asset_scanner_text.f k s b l (i : Int) = asset_scanner_text.l0 k ((i + 1 : Nat) : Int) (c.toNat : Int) s b l := by
  obtain ⟨h1, h2, h3⟩ := bt_cons hd
  have hw : wrap64 ((i : Int) + 1) = ((i + 1 : Nat) : Int) := by unfold wrap64; omega
  unfold asset_scanner_text.f
  rw [if_pos (by omega), if_pos (by omega), h2, hw]
theorem dv_eq {s : ByteArray} (b : Bool) (l : List S72) (hs : s.size ≤ 20000) (hl : l.length ≤ 1000000) {i : Nat} {c : UInt8} {R : List UInt8} (hd : (by_ s).drop i = c :: R) (k : Nat) :
    dvLoop (k + 1) s b l (i : Int) = if badB c = true then some ([], (i : Int), 9) else
      (dvOne k s b l (i : Int)).bind fun t3 => if t3 = true then
          (asset_scanner_blank.l0 k (i : Int) s b l).bind fun t => if t.2.2.1 = 0 then (if (i : Int) ≤ t.1 ∧ t.1 ≤ (s.size : Int) then dvLoop k s b (l ++ [addTok s 4 (i : Int) t.1]) t.1 else none) else some ([], t.2.1, t.2.2.1)
        else if quo c = true then
          (asset_scanner_text.l0 k ((i + 1 : Nat) : Int) (c.toNat : Int) s b l).bind fun t => if t.1 < 0 then some ([], (i : Int), 8) else
            (asset_scanner_checked.l0 k t.1 (i : Int) s b l).bind fun u => if u.1 ≥ 0 then some ([], u.1, 9) else
              if (i : Int) ≤ t.1 ∧ t.1 ≤ (s.size : Int) then dvLoop k s b (l ++ [addTok s 2 (i : Int) t.1]) t.1 else none
        else if mrk b c = true then dvLoop k s b (l ++ [addTok s 3 (i : Int) ((i + 1 : Nat) : Int)]) ((i + 1 : Nat) : Int) else
          (dvWord k s b l ((i + 1 : Nat) : Int)).bind fun e => if (i : Int) ≤ e ∧ e ≤ (s.size : Int) then dvLoop k s b (l ++ [addTok s 1 (i : Int) e]) e else none := by
  obtain ⟨h1, h2, h3⟩ := bt_cons hd
  rw [dvLoop, if_pos (by omega), if_pos ⟨by omega, hl⟩, h2, badByte_eq, isMark_eq, quo_eq]
  unfold asset_scanner_blank.f
  simp only [Option.bind_some]
  rw [text_f b l hs hd]
  rfl
/-- the first of the tokens that are divided from here on -/
def Hd (b : Bool) (L : List UInt8) (ts : List S33) : Prop := ∀ t r, ts = t :: r → ∃ c R, L = c :: R ∧ (t.f0 = 4 → isB c = true ∨ noCmt b L = false) ∧ (t.f0 = 1 → beg b L = false) ∧ (t.f0 = 3 → tx t = [c])
structure Good (s : ByteArray) (b : Bool) (i : Nat) (ts : List S33) : Prop where
  v : ∀ t ∈ ts, Valid b t
  c : Ch b none ts
  t : total ts ≤ s.size - i
  n : ts.length ≤ s.size - i
  h : Hd b ((by_ s).drop i) ts
theorem Good.nil (s : ByteArray) (b : Bool) (i : Nat) : Good s b i [] := ⟨fun t h => by simp at h, trivial, Nat.zero_le _, Nat.zero_le _, fun t r h => by cases h⟩
theorem Good.cons {s : ByteArray} {b : Bool} {i e : Nat} {T : S33} {ts : List S33} (h : Good s b e ts) (hie : i < e) (he : e ≤ s.size) (hv : Valid b T) (hl : (tx T).length ≤ e - i) (hc : ∀ u r, ts = u :: r → ok2 b T u)
    (hh : ∃ c R, (by_ s).drop i = c :: R ∧ (T.f0 = 4 → isB c = true ∨ noCmt b ((by_ s).drop i) = false) ∧ (T.f0 = 1 → beg b ((by_ s).drop i) = false) ∧ (T.f0 = 3 → tx T = [c])) : Good s b i (T :: ts) := by
  refine ⟨fun t ht => ?_, ?_, ?_, ?_, fun t r e => ?_⟩
  · rcases List.mem_cons.1 ht with e | e
    · exact e ▸ hv
    · exact h.v t e
  · cases ts with
    | nil => trivial
    | cons u r => exact ⟨hc u r rfl, h.c⟩
  · have := h.t
    have e2 : total (T :: ts) = (tx T).length + total ts := by unfold total; rw [List.map_cons, List.sum_cons]
    omega
  · have := h.n
    rw [List.length_cons]
    omega
  · injection e with e1 e2
    subst e1
    exact hh
theorem addTok_f0 (s : ByteArray) (k : Int) (i j : Int) : (addTok s k i j).f0.f0 = k := rfl
theorem addTok_tx (s : ByteArray) {k : Int} (hk : k ≠ 4) (i j : Nat) : tx (addTok s k (i : Int) (j : Int)).f0 = ((by_ s).drop i).take (j - i) := by
  rw [addTok_other s _ _ hk]
  show (s.extract (i : Int).toNat (j : Int).toNat).data.toList = _
  rw [Int.toNat_natCast, Int.toNat_natCast, Lib.extract_data]
theorem addTok_bl (s : ByteArray) (i j : Int) : tx (addTok s 4 i j).f0 = [32] := by rw [addTok_blank s i j rfl]
theorem dv_ex {s : ByteArray} (b : Bool) (hs : s.size ≤ 20000) : ∀ (n i : Nat) (l : List S72), i ≤ s.size → s.size - i ≤ n → l.length ≤ i → ∃ r : List S72 × Int × Int, Ev (fun k => dvLoop k s b l (i : Int)) r ∧
    (r.2.2 = 0 → ∃ zs : List S72, r.1 = l ++ zs ∧ Good s b i (zs.map (·.f0)))
  | n, i, l, hi, hn, hl => by
    by_cases hq : i = s.size
    · exact ⟨(l, 0, 0), Ev.pos (fun k => by rw [dvLoop, if_neg (by omega)]), fun _ => ⟨[], by simp, Good.nil _ _ _⟩⟩
    · obtain ⟨m, rfl⟩ : ∃ m, n = m + 1 := ⟨n - 1, by omega⟩
      obtain ⟨c, R, hd⟩ := drop_lt (s := s) (i := i) (by omega)
      obtain ⟨h1, h2, h3⟩ := bt_cons hd
      have heq := dv_eq b l hs (by omega) hd
      by_cases hbad : badB c = true
      · exact ⟨([], i, 9), Ev.step (fun k => by rw [heq, if_pos hbad]) (Ev.now _), fun h => (by cases h)⟩
      · have hbad' : badB c = false := by simpa using hbad
        have h1v := dvOne_ex b l hs hd
        by_cases ho : (isB c || !noCmt b (c :: R)) = true
        · obtain ⟨e, p, er, hb, hx⟩ := blank_ex b l hs (s.size - i) i hi (Nat.le_refl _)
          have hgo : ∀ r, Ev (fun k => if er = 0 then (if (i : Int) ≤ e ∧ e ≤ (s.size : Int) then dvLoop k s b (l ++ [addTok s 4 (i : Int) e]) e else none) else some ([], p, er)) r → Ev (fun k => dvLoop k s b l (i : Int)) r := fun r hr => by
            refine Ev.step (fun k => by rw [heq, if_neg hbad]) ?_
            refine Ev.bind h1v ?_
            refine Ev.congr (fun k => by rw [if_pos ho]) ?_
            exact Ev.bind (f := fun k (t : Int × Int × Int × ByteArray × Bool) => if t.2.2.1 = 0 then (if (i : Int) ≤ t.1 ∧ t.1 ≤ (s.size : Int) then dvLoop k s b (l ++ [addTok s 4 (i : Int) t.1]) t.1 else none) else some ([], t.2.1, t.2.2.1)) hb hr
          by_cases he : er = 0
          · obtain ⟨e', rfl, g1, g2, g3, g4⟩ := hx he
            clear hx
            have hne : i < e' := by
              by_cases q : e' = i
              · rcases g4 q with q2 | ⟨c', R', e1, e2, e3⟩
                · omega
                · rw [hd] at e1 e3
                  injection e1 with e4 e5
                  subst e4 e5
                  rw [e2, e3] at ho
                  cases ho
              · omega
            obtain ⟨r, hr, hz⟩ := dv_ex b hs m e' (l ++ [addTok s 4 (i : Int) (e' : Int)]) g2 (by omega) (by simp; omega)
            refine ⟨r, hgo r (Ev.congr (fun k => by rw [if_pos he, if_pos ⟨by omega, by omega⟩]) hr), fun h0 => ?_⟩
            obtain ⟨zs, hz1, hz2⟩ := hz h0
            refine ⟨addTok s 4 (i : Int) (e' : Int) :: zs, by rw [hz1]; simp, ?_⟩
            rw [List.map_cons]
            refine hz2.cons hne g2 (.inl ⟨rfl, addTok_bl s _ _⟩) (by rw [addTok_bl]; simp; omega) (fun u r' hu => ?_) ⟨c, R, hd, fun _ => ?_, fun h => (by cases h), fun h => (by cases h)⟩
            · refine ⟨fun h => (by cases h), fun _ hu4 => ?_, fun _ h => (by cases h)⟩
              obtain ⟨c', R', e1, e2, _, _⟩ := hz2.h u r' hu
              rcases g3 with q | ⟨c2, R2, f1, f2, f3⟩
              · rw [drop_end (by omega)] at e1; cases e1
              · rw [f1] at e1
                injection e1 with e4 e5
                subst e4
                rcases e2 hu4 with q | q
                · rw [f2] at q; cases q
                · rw [f3] at q; cases q
            · rw [hd]
              rw [Bool.or_eq_true] at ho
              rcases ho with q | q
              · exact .inl q
              · exact .inr (by simpa using q)
          · exact ⟨([], p, er), hgo _ (Ev.congr (fun k => by rw [if_neg he]) (Ev.now _)), fun h => absurd h he⟩
        · have ho' : (isB c || !noCmt b (c :: R)) = false := by simpa using ho
          have hgo0 : ∀ r, Ev (fun k => if quo c = true then
              (asset_scanner_text.l0 k ((i + 1 : Nat) : Int) (c.toNat : Int) s b l).bind fun t => if t.1 < 0 then some ([], (i : Int), 8) else
                (asset_scanner_checked.l0 k t.1 (i : Int) s b l).bind fun u => if u.1 ≥ 0 then some ([], u.1, 9) else
                  if (i : Int) ≤ t.1 ∧ t.1 ≤ (s.size : Int) then dvLoop k s b (l ++ [addTok s 2 (i : Int) t.1]) t.1 else none
            else if mrk b c = true then dvLoop k s b (l ++ [addTok s 3 (i : Int) ((i + 1 : Nat) : Int)]) ((i + 1 : Nat) : Int) else
              (dvWord k s b l ((i + 1 : Nat) : Int)).bind fun e => if (i : Int) ≤ e ∧ e ≤ (s.size : Int) then dvLoop k s b (l ++ [addTok s 1 (i : Int) e]) e else none) r → Ev (fun k => dvLoop k s b l (i : Int)) r := fun r hr => by
            refine Ev.step (fun k => by rw [heq, if_neg hbad]) ?_
            refine Ev.bind h1v ?_
            exact Ev.congr (fun k => by rw [if_neg ho]) hr
          rw [Bool.or_eq_false_iff, Bool.not_eq_false'] at ho'
          by_cases hqc : quo c = true
          · have ht := text_ex b l hs c (s.size - (i + 1)) (i + 1) (by omega) (Nat.le_refl _)
            rw [h3] at ht
            cases hsc : scan c R with
            | none =>
              rw [hsc] at ht
              refine ⟨([], i, 8), hgo0 _ ?_, fun h => (by cases h)⟩
              refine Ev.congr (fun k => by rw [if_pos hqc]) ?_
              refine Ev.bind (f := fun k (t : Int × ByteArray × Bool) => if t.1 < 0 then some ([], (i : Int), 8) else
                (asset_scanner_checked.l0 k t.1 (i : Int) s b l).bind fun u => if u.1 ≥ 0 then some ([], u.1, 9) else
                  if (i : Int) ≤ t.1 ∧ t.1 ≤ (s.size : Int) then dvLoop k s b (l ++ [addTok s 2 (i : Int) t.1]) t.1 else none) ht ?_
              exact Ev.congr (fun k => by rw [if_pos (show scanned (i + 1) none < 0 from (show (-1 : Int) < 0 by decide))]) (Ev.now _)
            | some w =>
              rw [hsc] at ht
              obtain ⟨w1, w2, w3⟩ := scan_take c R.length R w (Nat.le_refl _) hsc
              have hRl : R.length = s.size - (i + 1) := by rw [← h3, List.length_drop, by_len]
              obtain ⟨u, hu, hx⟩ := checked_ex b l hs (i + 1 + w) (by omega) (1 + w) i (by omega)
              have hgo : ∀ r, Ev (fun k => if u ≥ 0 then some ([], u, 9) else if (i : Int) ≤ ((i + 1 + w : Nat) : Int) ∧ ((i + 1 + w : Nat) : Int) ≤ (s.size : Int) then dvLoop k s b (l ++ [addTok s 2 (i : Int) ((i + 1 + w : Nat) : Int)]) ((i + 1 + w : Nat) : Int) else none) r → Ev (fun k => dvLoop k s b l (i : Int)) r := fun r hr => by
                refine hgo0 _ ?_
                refine Ev.congr (fun k => by rw [if_pos hqc]) ?_
                refine Ev.bind (f := fun k (t : Int × ByteArray × Bool) => if t.1 < 0 then some ([], (i : Int), 8) else
                  (asset_scanner_checked.l0 k t.1 (i : Int) s b l).bind fun u => if u.1 ≥ 0 then some ([], u.1, 9) else
                    if (i : Int) ≤ t.1 ∧ t.1 ≤ (s.size : Int) then dvLoop k s b (l ++ [addTok s 2 (i : Int) t.1]) t.1 else none) ht ?_
                refine Ev.congr (fun k => by rw [if_neg (show ¬ scanned (i + 1) (some w) < 0 by show ¬ ((i + 1 + w : Nat) : Int) < 0; omega)]) ?_
                exact Ev.bind (f := fun k (u : Int × ByteArray × Bool) => if u.1 ≥ 0 then some ([], u.1, 9) else if (i : Int) ≤ ((i + 1 + w : Nat) : Int) ∧ ((i + 1 + w : Nat) : Int) ≤ (s.size : Int) then dvLoop k s b (l ++ [addTok s 2 (i : Int) ((i + 1 + w : Nat) : Int)]) ((i + 1 + w : Nat) : Int) else none) hu hr
              rcases hx with ⟨hu1, hall⟩ | ⟨hu1, _⟩
              · obtain ⟨r, hr, hz⟩ := dv_ex b hs m (i + 1 + w) (l ++ [addTok s 2 (i : Int) ((i + 1 + w : Nat) : Int)]) (by omega) (by omega) (by simp; omega)
                refine ⟨r, hgo r (Ev.congr (fun k => by rw [if_neg (by omega), if_pos ⟨by omega, by omega⟩]) hr), fun h0 => ?_⟩
                obtain ⟨zs, hz1, hz2⟩ := hz h0
                have htx : tx (addTok s 2 (i : Int) ((i + 1 + w : Nat) : Int)).f0 = c :: R.take w := by
                  rw [addTok_tx s (by decide), hd, show i + 1 + w - i = w + 1 by omega, List.take_succ_cons]
                refine ⟨addTok s 2 (i : Int) ((i + 1 + w : Nat) : Int) :: zs, by rw [hz1]; simp, ?_⟩
                rw [List.map_cons]
                refine hz2.cons (by omega) (by omega) (.inr (.inr (.inl ⟨rfl, c, R.take w, htx, hqc, ?_, ?_⟩))) (by rw [htx]; simp; omega) (fun u r' hu => ⟨fun h => (by cases h), fun h => (by cases h), fun _ h => (by cases h)⟩) ⟨c, R, hd, fun h => (by cases h), fun h => (by cases h), fun h => (by cases h)⟩
                · have := w3 []
                  rw [List.append_nil] at this
                  rw [this, List.length_take]
                  congr 1
                  omega
                · rw [htx]
                  rw [hd, show 1 + w = w + 1 by omega, List.take_succ_cons] at hall
                  exact hall
              · exact ⟨([], u, 9), hgo _ (Ev.congr (fun k => by rw [if_pos (show u ≥ 0 from hu1)]) (Ev.now _)), fun h => (by cases h)⟩
          · have hqc' : quo c = false := by simpa using hqc
            by_cases hmk : mrk b c = true
            · obtain ⟨r, hr, hz⟩ := dv_ex b hs m (i + 1) (l ++ [addTok s 3 (i : Int) ((i + 1 : Nat) : Int)]) (by omega) (by omega) (by simp; omega)
              refine ⟨r, hgo0 _ (Ev.congr (fun k => by rw [if_neg hqc, if_pos hmk]) hr), fun h0 => ?_⟩
              obtain ⟨zs, hz1, hz2⟩ := hz h0
              have htx : tx (addTok s 3 (i : Int) ((i + 1 : Nat) : Int)).f0 = [c] := by
                rw [addTok_tx s (by decide), hd, show i + 1 - i = 0 + 1 by omega, List.take_succ_cons, List.take_zero]
              refine ⟨addTok s 3 (i : Int) ((i + 1 : Nat) : Int) :: zs, by rw [hz1]; simp, ?_⟩
              rw [List.map_cons]
              refine hz2.cons (by omega) (by omega) (.inr (.inl ⟨rfl, c, htx, hbad', ho'.1, hqc', hmk⟩)) (by rw [htx]; simp) (fun u r' hu => ⟨fun h => (by cases h), fun h => (by cases h), fun hb _ h47 hu3 => ?_⟩) ⟨c, R, hd, fun h => (by cases h), fun h => (by cases h), fun _ => htx⟩
              obtain ⟨c', R', e1, _, _, e2⟩ := hz2.h u r' hu
              rw [h3] at e1
              have e3 := e2 hu3
              rw [htx] at h47
              injection h47 with h47 _
              have hn := ho'.2
              rw [e1, h47, hb] at hn
              rw [e3]
              unfold noCmt at hn
              constructor <;> (intro e; injection e with e _; rw [e] at hn; simp at hn)
            · have hmk' : mrk b c = false := by simpa using hmk
              obtain ⟨e', w1, w2, w3, w4, w5⟩ := dvWord_ex b l hs (s.size - (i + 1)) (i + 1) (by omega) (Nat.le_refl _)
              obtain ⟨r, hr, hz⟩ := dv_ex b hs m e' (l ++ [addTok s 1 (i : Int) (e' : Int)]) w3 (by omega) (by simp; omega)
              have hbeg : beg b (c :: R) = false := by rw [beg_cons, ho'.1, hqc', hmk', ho'.2, hbad']; rfl
              refine ⟨r, hgo0 _ ?_, fun h0 => ?_⟩
              · refine Ev.congr (fun k => by rw [if_neg hqc, if_neg hmk]) ?_
                refine Ev.bind (f := fun k (e : Int) => if (i : Int) ≤ e ∧ e ≤ (s.size : Int) then dvLoop k s b (l ++ [addTok s 1 (i : Int) e]) e else none) w1 ?_
                exact Ev.congr (fun k => by rw [if_pos ⟨by omega, by omega⟩]) hr
              · obtain ⟨zs, hz1, hz2⟩ := hz h0
                have htx : tx (addTok s 1 (i : Int) (e' : Int)).f0 = ((by_ s).drop i).take (e' - i) := addTok_tx s (by decide) i e'
                have hln : (tx (addTok s 1 (i : Int) (e' : Int)).f0).length = e' - i := by rw [htx, List.length_take, List.length_drop, by_len]; omega
                refine ⟨addTok s 1 (i : Int) (e' : Int) :: zs, by rw [hz1]; simp, ?_⟩
                rw [List.map_cons]
                refine hz2.cons (by omega) w3 (.inr (.inr (.inr ⟨rfl, fun e => ?_, fun j hj => ?_⟩))) (by rw [hln]; omega) (fun u r' hu => ⟨fun _ hu1 => ?_, fun h => (by cases h), fun _ h => (by cases h)⟩) ⟨c, R, hd, fun h => (by cases h), fun _ => by rw [hd]; exact hbeg, fun h => (by cases h)⟩
                · rw [e] at hln; simp at hln; omega
                · rw [hln] at hj
                  rw [htx, List.drop_take, List.drop_drop]
                  refine beg_take (by omega) ?_
                  by_cases hj0 : j = 0
                  · subst hj0; rw [Nat.add_zero, hd]; exact hbeg
                  · exact w4 (i + j) (by omega) (by omega)
                · obtain ⟨c', R', e1, _, e2, _⟩ := hz2.h u r' hu
                  have := e2 hu1
                  rw [w5] at this
                  cases this
end Go.Proofs.Ytllpaepiiiedgaa.PAssetSame
