/- What is minified means the same: the tokens of what is minified are those that are left, and it is minified to itself. For every kind and every string. -/
import Derived.Test.YtllpaepiiiedgaaPureAssetSameE
namespace Go.Proofs.Ytllpaepiiiedgaa.PAssetSame
open Go.RowKit Go.Proofs.YtllpaepiiiedgaaW.PrintWords Go.Proofs.YtllpaepiiiedgaaW.PrintLast Go.Proofs.YtllpaepiiiedgaaW.PrintMore
set_option linter.unusedVariables false
set_option linter.unusedSimpArgs false
theorem among_eq (ms : ByteArray) (hm : ms.size < 4294967281) (t : S33) : asset_among.f t.f0 t.f1 ms = some (am (by_ ms) t) := by
  unfold asset_among.f strings_Contains.f am
  by_cases h3 : t.f0 = 3
  · rw [if_pos h3, h3]
    by_cases h1 : t.f1.size = 1
    · rw [if_pos (by rw [h1]; rfl), if_pos hm, h1]
      simp only [Option.bind_some]
      rfl
    · rw [if_neg (by omega)]
      have : (t.f1.size == 1) = false := by simpa using h1
      rw [this]
      rfl
  · rw [if_neg h3]
    have : (t.f0 == 3) = false := by simpa using h3
    rw [this]
    rfl
theorem rd_at {ts : List S33} {i : Nat} {t : S33} {r : List S33} (h : ts.drop i = t :: r) : i < ts.length ∧ rd_T33 ts (i : Int) = t ∧ ts.drop (i + 1) = r := by
  have hlt : i < ts.length := by
    by_cases q : i < ts.length
    · exact q
    · rw [List.drop_eq_nil_of_le (by omega)] at h; cases h
  rw [List.drop_eq_getElem_cons hlt] at h
  injection h with h1 h2
  refine ⟨hlt, ?_, h2⟩
  unfold rd_T33
  rw [Int.toNat_natCast, List.getD_eq_getElem?_getD, List.getElem?_eq_getElem hlt, Option.getD_some, h1]
theorem drop_at {ts : List S33} {i : Nat} (h : i < ts.length) : ∃ t r, ts.drop i = t :: r := ⟨_, _, List.drop_eq_getElem_cons h⟩
/-! ### idle -/
def wl : List S33 → List Bool
  | [] => []
  | t :: r => (t.f0 != 4 && am [59] t && en r) :: wl r
theorem wl_len : ∀ ts, (wl ts).length = ts.length
  | [] => rfl
  | t :: r => by rw [wl, List.length_cons, List.length_cons, wl_len r]
theorem wl_drop : ∀ (ts : List S33) (i : Nat), (wl ts).drop i = wl (ts.drop i)
  | ts, 0 => rfl
  | [], i + 1 => by simp [wl]
  | t :: r, i + 1 => by rw [wl, List.drop_succ_cons, List.drop_succ_cons, wl_drop r i]
theorem idle_loop (ts : List S33) (hn : ts.length ≤ 20000) : ∀ m, m ≤ ts.length → Ev (fun k => asset_idle.l0 k ts (List.replicate m false ++ wl (ts.drop m)) (en (ts.drop m)) ((m : Int) - 1)) (wl ts)
  | 0, _ => Ev.pos (fun k => by rw [asset_idle.l0, if_neg (by omega)]; rfl)
  | m + 1, hm => by
    obtain ⟨t, r, hd⟩ := drop_at (ts := ts) (i := m) (by omega)
    obtain ⟨h1, h2, h3⟩ := rd_at hd
    have ih := idle_loop ts hn m (by omega)
    have hi : ((m + 1 : Nat) : Int) - 1 = (m : Int) := by omega
    have hw : wrap64 ((m : Int) - 1) = (m : Int) - 1 := by unfold wrap64; omega
    rw [h3, hi]
    rw [hd] at ih
    have hrep : List.replicate (m + 1) false ++ wl r = List.replicate m false ++ false :: wl r := by rw [List.replicate_succ', List.append_assoc]; rfl
    have hstep : ∀ k, asset_idle.l0 (k + 1) ts (List.replicate (m + 1) false ++ wl r) (en r) (m : Int) = if t.f0 = 4 then asset_idle.l0 k ts (List.replicate (m + 1) false ++ wl r) (en r) ((m : Int) - 1) else
        if am [59] t = true then asset_idle.l0 k ts ((List.replicate (m + 1) false ++ wl r).set m (en r)) (en r) ((m : Int) - 1) else asset_idle.l0 k ts (List.replicate (m + 1) false ++ wl r) (am [125] t) ((m : Int) - 1) := fun k => by
      rw [asset_idle.l0, if_pos (by omega), if_pos (by omega), if_pos (by omega), h2, hw, among_eq _ (by decide), among_eq _ (by decide), Int.toNat_natCast]
      simp only [Option.bind_some]
      rw [if_pos (show (m : Int) < ((List.replicate (m + 1) false ++ wl r).length : Int) by rw [List.length_append, List.length_replicate]; omega)]
    by_cases h4 : t.f0 = 4
    · refine Ev.step (fun k => by rw [hstep, if_pos h4]) ?_
      rw [hrep]
      rw [en_blank h4, wl, h4] at ih
      exact ih
    · have hb : (t.f0 != 4) = true := by simpa using h4
      by_cases hs : am [59] t = true
      · refine Ev.step (fun k => by rw [hstep, if_neg h4, if_pos hs]) ?_
        rw [hrep, List.set_append_right _ _ (by simp), List.length_replicate, Nat.sub_self, List.set_cons_zero]
        rw [en_semi hs, wl, hb, hs] at ih
        exact ih
      · have hs' : am [59] t = false := by simpa using hs
        refine Ev.step (fun k => by rw [hstep, if_neg h4, if_neg hs]) ?_
        rw [hrep]
        rw [en_other h4 hs', wl, hb, hs'] at ih
        exact ih
theorem idle_ex (ts : List S33) (hn : ts.length ≤ 20000) : Ev (fun k => asset_idle.f k ts) (wl ts) := by
  have h := idle_loop ts hn ts.length (Nat.le_refl _)
  rw [List.drop_length] at h
  have hw : wrap64 ((ts.length : Int) - 1) = (ts.length : Int) - 1 := by unfold wrap64; omega
  refine Ev.congr (fun k => ?_) h
  unfold asset_idle.f
  rw [if_pos (by omega), if_pos (by omega), hw, Int.toNat_natCast]
  simp [wl, en]
/-! ### needed, smaller -/
theorem needed_eq (kind : Int) (ts : List S33) (hn : ts.length ≤ 20000) {i : Nat} (hi : i < ts.length) (k : Nat) :
    asset_needed.f (k + 1) kind ts (i : Int) = some (if i = 0 ∨ i + 1 = ts.length then false else ndd kind (rd_T33 ts ((i : Int) - 1)) (rd_T33 ts ((i : Int) + 1))) := by
  have hw0 : wrap64 ((ts.length : Int) - 1) = (ts.length : Int) - 1 := by unfold wrap64; omega
  have hw1 : wrap64 ((i : Int) - 1) = (i : Int) - 1 := by unfold wrap64; omega
  have hw2 : wrap64 ((i : Int) + 1) = (i : Int) + 1 := by unfold wrap64; omega
  unfold asset_needed.f
  by_cases h0 : i = 0
  · rw [if_pos (by omega), asset_needed.j0, if_pos rfl, if_pos (.inl h0)]
  · rw [if_neg (by omega), hw0]
    by_cases h1 : i + 1 = ts.length
    · rw [if_pos (.inr h1), asset_needed.j0, if_pos (by simp; omega)]
    · rw [if_neg (by omega), asset_needed.j0, if_neg (by simp; omega), hw1, hw2, if_pos (by omega), if_pos (by omega), if_pos (by omega), if_pos (by omega), among_eq _ (by decide), among_eq _ (by decide)]
      simp only [Option.bind_some]
      unfold ndd
      by_cases hk : kind = 1
      · rw [if_pos hk, if_pos hk]
        show (if am mA _ = true then some false else some (!am mB _)) = _
        by_cases ha : am mA (rd_T33 ts ((i : Int) - 1)) = true
        · rw [if_pos ha, ha]; rfl
        · have ha' : am mA (rd_T33 ts ((i : Int) - 1)) = false := by simpa using ha
          rw [if_neg ha, ha']; rfl
      · rw [if_neg hk, if_neg hk]
        by_cases he : (rd_T33 ts ((i : Int) - 1)).f0 = (rd_T33 ts ((i : Int) + 1)).f0
        · rw [if_pos he, he]
          by_cases h3 : (rd_T33 ts ((i : Int) + 1)).f0 = 1
          · rw [if_pos h3, h3]; rfl
          · rw [if_neg h3]
            have : ((rd_T33 ts ((i : Int) + 1)).f0 == 1) = false := by simpa using h3
            rw [this]
            simp
        · rw [if_neg he]
          have : ((rd_T33 ts ((i : Int) - 1)).f0 == (rd_T33 ts ((i : Int) + 1)).f0) = false := by simpa using he
          rw [this]; rfl
theorem sm_loop (kind : Int) (ts : List S33) (hn : ts.length ≤ 20000) : ∀ (r : List S33) (i : Nat) (out : List S33), ts.drop i = r → i ≤ ts.length → out.length ≤ i →
    Ev (fun k => smLoop k kind ts (wl ts) out (i : Int)) (out ++ smR kind (if i = 0 then none else some (rd_T33 ts ((i : Int) - 1))) r)
  | [], i, out, hd, hi, ho => by
    have : i = ts.length := by
      have := congrArg List.length hd
      rw [List.length_drop] at this
      simp at this
      omega
    refine Ev.pos (fun k => by rw [smLoop, if_neg (by omega)]; simp [smR])
  | t :: r, i, out, hd, hi, ho => by
    obtain ⟨h1, h2, h3⟩ := rd_at hd
    have hnext : ∀ out', out'.length ≤ i + 1 → Ev (fun k => smLoop k kind ts (wl ts) out' ((i : Int) + 1)) (out' ++ smR kind (some t) r) := fun out' h => by
      have := sm_loop kind ts hn r (i + 1) out' h3 (by omega) h
      rw [if_neg (by omega), show ((i + 1 : Nat) : Int) - 1 = (i : Int) by omega, h2] at this
      exact this
    have hwo : rdOf false (wl ts) (i : Int) = (t.f0 != 4 && am [59] t && en r) := by
      have e := wl_drop ts i
      rw [hd, wl] at e
      unfold rdOf
      rw [Int.toNat_natCast, List.getD_eq_getElem?_getD, ← List.head?_drop, e]
      rfl
    have hwl : (i : Int) < ((wl ts).length : Int) := by rw [wl_len]; omega
    have hstep : ∀ k, smLoop (k + 1) kind ts (wl ts) out (i : Int) = (smDrop k kind ts (i : Int)).bind fun d1 => if d1 = true then smLoop k kind ts (wl ts) out ((i : Int) + 1) else
        if (kind == 1 && (t.f0 != 4 && am [59] t && en r)) = true then smLoop k kind ts (wl ts) out ((i : Int) + 1) else smLoop k kind ts (wl ts) (out ++ [t]) ((i : Int) + 1) := fun k => by
      rw [smLoop, if_pos (by omega), if_pos ⟨by omega, by omega⟩, if_pos hwl, hwo, h2]
      congr 1
      funext d
      cases d with
      | true => rfl
      | false =>
        cases (kind == 1) with
        | true => rfl
        | false => rfl
    obtain ⟨p, hp⟩ : ∃ p, (if i = 0 then none else some (rd_T33 ts ((i : Int) - 1))) = p := ⟨_, rfl⟩
    have hkeep : ∀ q : Bool, Ev (fun k => smDrop k kind ts (i : Int)) q → (keep kind p t r = (!q && !(kind == 1 && (t.f0 != 4 && am [59] t && en r)))) → Ev (fun k => smLoop k kind ts (wl ts) out (i : Int)) (out ++ smR kind p (t :: r)) := fun q hq hk => by
      refine Ev.step hstep ?_
      refine Ev.bind (f := fun k (d1 : Bool) => if d1 = true then smLoop k kind ts (wl ts) out ((i : Int) + 1) else
        if (kind == 1 && (t.f0 != 4 && am [59] t && en r)) = true then smLoop k kind ts (wl ts) out ((i : Int) + 1) else smLoop k kind ts (wl ts) (out ++ [t]) ((i : Int) + 1)) hq ?_
      rw [smR, hk]
      cases q with
      | true =>
        rw [if_neg (by simp)]
        exact Ev.congr (fun k => by rw [if_pos rfl]) (hnext out (by omega))
      | false =>
        cases hz : (kind == 1 && (t.f0 != 4 && am [59] t && en r)) with
        | true =>
          rw [if_neg (by decide)]
          exact Ev.congr (fun k => by rw [if_neg Bool.false_ne_true, if_pos rfl]) (hnext out (by omega))
        | false =>
          rw [if_pos (by decide)]
          have := hnext (out ++ [t]) (by rw [List.length_append, List.length_singleton]; omega)
          rw [List.append_assoc] at this
          exact Ev.congr (fun k => by rw [if_neg Bool.false_ne_true, if_neg Bool.false_ne_true]) this
    rw [hp]
    by_cases h4 : t.f0 = 4
    · have hd1 : Ev (fun k => smDrop k kind ts (i : Int)) (!(if i = 0 ∨ i + 1 = ts.length then false else ndd kind (rd_T33 ts ((i : Int) - 1)) (rd_T33 ts ((i : Int) + 1)))) := by
        refine Ev.congr (f := fun k => (asset_needed.f k kind ts (i : Int)).bind fun b => some (!b)) (fun k => by unfold smDrop; rw [h2, if_pos (by rw [h4]; rfl)]) ?_
        exact Ev.bind (Ev.pos (needed_eq kind ts hn h1)) (Ev.now _)
      refine hkeep _ hd1 ?_
      rw [keep_blank h4, h4, Bool.not_not]
      show _ = (_ && !(kind == 1 && (false && am [59] t && en r)))
      simp only [Bool.false_and, Bool.and_false, Bool.not_false, Bool.and_true]
      subst hp
      by_cases h0 : i = 0
      · rw [if_pos h0, if_pos (.inl h0)]
      · rw [if_neg h0]
        cases r with
        | nil =>
          have : i + 1 = ts.length := by
            have := congrArg List.length h3
            rw [List.length_drop] at this
            simp at this
            omega
          rw [if_pos (.inr this)]
        | cons c r' =>
          obtain ⟨g1, g2, _⟩ := rd_at h3
          rw [if_neg (by omega), show (i : Int) + 1 = ((i + 1 : Nat) : Int) by omega, g2]
    · have hd1 : Ev (fun k => smDrop k kind ts (i : Int)) false := by
        refine Ev.congr (f := fun k => some false) (fun k => by unfold smDrop; rw [h2, if_neg (by simpa using h4)]) (Ev.now _)
      refine hkeep _ hd1 ?_
      have hb : (t.f0 != 4) = true := by simpa using h4
      rw [keep_other h4, hb, Bool.not_false, Bool.true_and, Bool.true_and, Bool.and_assoc]
theorem ch_pair {b : Bool} : ∀ (ts : List S33) (p : Option S33) (i : Nat) (t u : S33) (r : List S33), Ch b p ts → ts.drop i = t :: u :: r → ok2 b t u
  | [], p, i, t, u, r, _, h => by simp at h
  | x :: xs, p, 0, t, u, r, hc, h => by
    injection h with h1 h2
    subst h1 h2
    have := (ch_cons hc).2
    exact this.1
  | x :: xs, p, i + 1, t, u, r, hc, h => ch_pair xs (some x) i t u r (ch_cons hc).2 h
theorem noBB_ok {b : Bool} {ts : List S33} (hc : Ch b none ts) : noBB ts = true := by
  unfold noBB
  rw [List.all_eq_true]
  intro i hi
  have hi := List.mem_range.1 hi
  by_cases h0 : i = 0
  · subst h0; simp
  · obtain ⟨t, r, hd⟩ := drop_at (ts := ts) (i := i - 1) (by omega)
    obtain ⟨g1, g2, g3⟩ := rd_at hd
    rw [show i - 1 + 1 = i by omega] at g3
    obtain ⟨u, r', hd2⟩ := drop_at hi
    rw [hd2] at g3
    subst g3
    obtain ⟨_, g4, _⟩ := rd_at hd2
    have hok := ch_pair ts none (i - 1) t u r' hc hd
    rw [show (i : Int) - 1 = ((i - 1 : Nat) : Int) by omega, g2, g4]
    by_cases h4 : u.f0 = 4
    · have : t.f0 ≠ 4 := fun e => hok.2.1 e h4
      simp [this]
    · simp [h4]
theorem smaller_ex {b : Bool} (kind : Int) (ts : List S33) (hn : ts.length ≤ 20000) (hc : Ch b none ts) : Ev (fun k => asset_smaller.f k kind ts) (smR kind none ts) := by
  have h := sm_loop kind ts hn ts 0 [] rfl (Nat.zero_le _) (Nat.le_refl _)
  refine Ev.congr (f := fun k => (asset_idle.f k ts).bind fun wo => smLoop k kind ts wo [] 0) (fun k => by unfold asset_smaller.f; rw [if_pos (by rw [noBB_ok hc, Bool.true_and]; exact decide_eq_true (by omega))]) ?_
  exact Ev.bind (f := fun k wo => smLoop k kind ts wo [] 0) (idle_ex ts hn) h
/-! ### the rest -/
theorem plain_loop (l : List S72) (hn : l.length ≤ 20000) : ∀ (n i : Nat) (acc : List S33), l.length - i = n → i ≤ l.length → acc.length ≤ i → Ev (fun k => asset_plain.l0 k acc l (l.length : Int) (i : Int)) (acc ++ (l.drop i).map (·.f0))
  | 0, i, acc, h, hi, ha => by
    rw [List.drop_eq_nil_of_le (by omega)]
    exact Ev.pos (fun k => by rw [asset_plain.l0, if_neg (by omega)]; simp)
  | n + 1, i, acc, h, hi, ha => by
    have hlt : i < l.length := by omega
    have hd := List.drop_eq_getElem_cons hlt
    have hw : wrap64 ((i : Int) + 1) = ((i + 1 : Nat) : Int) := by unfold wrap64; omega
    have hrd : rd_T72 l (i : Int) = l[i] := by
      unfold rd_T72
      rw [Int.toNat_natCast, List.getD_eq_getElem?_getD, List.getElem?_eq_getElem hlt, Option.getD_some]
    have ih := plain_loop l hn n (i + 1) (acc ++ [l[i].f0]) (by omega) (by omega) (by rw [List.length_append, List.length_singleton]; omega)
    rw [List.append_assoc] at ih
    rw [hd, List.map_cons]
    exact Ev.step (fun k => by rw [asset_plain.l0, if_pos (by omega), if_pos (by omega), if_pos (by omega), if_pos (by omega), hw, hrd]) ih
theorem plain_ex (l : List S72) (hn : l.length ≤ 20000) : Ev (fun k => asset_plain.f k l) (l.map (·.f0)) := by
  have := plain_loop l hn l.length 0 [] (by omega) (Nat.zero_le _) (Nat.le_refl _)
  exact this
theorem fault_loop {b : Bool} (ts : List S33) (hn : ts.length ≤ 20000) (hv : ∀ t ∈ ts, Valid b t) : ∀ (n i : Nat) (x : Nat), ts.length - i = n → i ≤ ts.length → x + total (ts.drop i) ≤ 200000 → Ev (fun k => asset_tokensFault.l0 k (x : Int) ts (ts.length : Int) (i : Int)) 0
  | 0, i, x, h, hi, hx => by
    rw [List.drop_eq_nil_of_le (by omega)] at hx
    exact Ev.pos (fun k => by rw [asset_tokensFault.l0, if_neg (by omega), if_neg (by omega)])
  | n + 1, i, x, h, hi, hx => by
    obtain ⟨t, r, hd⟩ := drop_at (ts := ts) (i := i) (by omega)
    obtain ⟨h1, h2, h3⟩ := rd_at hd
    have htm : t ∈ ts := List.mem_of_mem_drop (hd ▸ List.mem_cons_self)
    obtain ⟨y, Y, e, _, e4, _, e3, ek⟩ := valid_head (hv t htm)
    have htot : total (ts.drop i) = t.f1.size + total r := by rw [hd]; unfold total; rw [List.map_cons, List.sum_cons]; unfold tx; rw [← Lib.size_eq]
    have hw : wrap64 ((i : Int) + 1) = ((i + 1 : Nat) : Int) := by unfold wrap64; omega
    have hw2 : wrap64 ((x : Int) + (t.f1.size : Int)) = ((x + t.f1.size : Nat) : Int) := by unfold wrap64; omega
    have ih := fault_loop ts hn hv n (i + 1) (x + t.f1.size) (by omega) (by omega) (by rw [h3]; omega)
    have htl : t.f1.toList = y :: Y := by rw [Lib.toList_data]; exact e
    refine Ev.step (f := fun k => asset_tokensFault.l0 k ((x + t.f1.size : Nat) : Int) ts (ts.length : Int) ((i + 1 : Nat) : Int)) (fun k => ?_) ih
    rw [asset_tokensFault.l0, if_pos (by omega), if_pos (by omega), if_pos (by omega), h2, if_neg (by omega), if_neg (by omega), if_neg (by rw [htl]; simp), hw, hw2]
    by_cases h4 : t.f0 = 4
    · rw [if_pos h4, if_pos]
      rw [htl]
      rcases hv t htm with ⟨_, q⟩ | ⟨q, _⟩ | ⟨q, _⟩ | ⟨q, _⟩
      · rw [← e]; exact q
      · omega
      · omega
      · omega
    · rw [if_neg h4]
theorem fault_ex {b : Bool} (ts : List S33) (hn : ts.length ≤ 20000) (hv : ∀ t ∈ ts, Valid b t) (ht : total ts ≤ 200000) : Ev (fun k => asset_tokensFault.f k ts) 0 := by
  refine Ev.congr (fun k => by unfold asset_tokensFault.f; rw [if_neg (by omega)]) ?_
  exact fault_loop ts hn hv ts.length 0 0 (by omega) (Nat.zero_le _) (by simpa using ht)
theorem token_loop (ts : List S33) (hn : ts.length ≤ 20000) : ∀ (n i : Nat), ts.length - i = n → i ≤ ts.length → Ev (fun k => asset_Token.l0 k ts ts (ts.length : Int) (i : Int)) true
  | 0, i, h, hi => Ev.pos (fun k => by rw [asset_Token.l0, if_neg (by omega)])
  | n + 1, i, h, hi => by
    have hw : wrap64 ((i : Int) + 1) = ((i + 1 : Nat) : Int) := by unfold wrap64; omega
    refine Ev.step (fun k => ?_) (token_loop ts hn n (i + 1) (by omega) (by omega))
    rw [asset_Token.l0, if_pos (by omega), if_pos (by omega), if_pos (by omega), if_pos (by omega), if_neg (by simp), hw]
theorem token_ex (ts : List S33) (hn : ts.length ≤ 20000) : Ev (fun k => asset_Token.f k ts ts) true := by
  refine Ev.congr (fun k => by unfold asset_Token.f; rw [if_pos rfl]) ?_
  exact token_loop ts hn ts.length 0 (by omega) (Nat.zero_le _)
theorem total_jd : ∀ ts : List S33, total ts = (jdText ts).length
  | [] => rfl
  | x :: r => by rw [jd_cons, List.length_append, ← total_jd r]; unfold total; rw [List.map_cons, List.sum_cons]
theorem total_mem {ts : List S33} : ∀ {x : S33}, x ∈ ts → x.f1.size ≤ total ts := by
  induction ts with
  | nil => intro x h; cases h
  | cons y r ih =>
    intro x h
    have e : total (y :: r) = y.f1.size + total r := by unfold total; rw [List.map_cons, List.sum_cons]; unfold tx; rw [← Lib.size_eq]
    rcases List.mem_cons.1 h with q | q
    · subst q; omega
    · have := ih q; omega
theorem joined_ex (ts : List S33) (hn : ts.length ≤ 20000) (ht : total ts ≤ 20000) : asset_joined.f ts = some ⟨(jdText ts).toArray⟩ := by
  unfold asset_joined.f
  rw [if_pos]
  unfold jdFits
  rw [Bool.and_eq_true, decide_eq_true_eq, List.all_eq_true]
  exact ⟨by omega, fun x hx => decide_eq_true (by have := total_mem hx; omega)⟩
theorem smR_len (kind : Int) : ∀ (ts : List S33) (p : Option S33), (smR kind p ts).length ≤ ts.length
  | [], _ => Nat.le_refl _
  | t :: r, p => by
    have ih := smR_len kind r (some t)
    rw [smR]
    split
    · rw [List.length_cons, List.length_cons]; omega
    · rw [List.length_cons]; omega
/-- a string that is divided to right tokens: what it is minified to -/
theorem minify_ok {s : ByteArray} (kind : Int) (hk : kind = 1 ∨ kind = 2) (hs : s.size ≤ 20000) {zs : List S72} {p : Int} (hz : Ev (fun k => dvLoop k s (kind == 2) [] 0) (zs, p, 0)) (hn : zs.length ≤ 20000) {b : Bool} (hc : Ch b none (zs.map (·.f0))) (ht : total (zs.map (·.f0)) ≤ 20000) :
    Ev (fun k => asset_Minify.f k kind s) (⟨(jdText (smR kind none (zs.map (·.f0)))).toArray⟩, 0, 0) := by
  have hm : (zs.map (·.f0)).length ≤ 20000 := by rw [List.length_map]; exact hn
  have h1 : ∀ k, asset_Minify.f k kind s = asset_Minify.j0 k kind s false := fun k => by
    unfold asset_Minify.f
    rw [if_neg (by omega)]
    rcases hk with q | q
    · rw [if_pos q]
    · rw [if_neg (by omega), q]; rfl
  refine Ev.congr h1 ?_
  refine Ev.step (f := fun k => (asset_divided.f k s (kind == 2)).bind fun bt => (if bt.2.2 = 0 then ((asset_plain.f k bt.1).bind fun t154 => ((asset_smaller.f k kind t154).bind fun t157 => ((asset_joined.f t157).bind fun t160 => (some (t160, 0, 0))))) else (some ((⟨#[]⟩ : ByteArray), bt.2.1, bt.2.2)))) (fun k => by rw [asset_Minify.j0, if_neg Bool.false_ne_true]) ?_
  have hdv : Ev (fun k => asset_divided.f k s (kind == 2)) (zs, p, 0) := Ev.congr (fun k => by unfold asset_divided.f; rw [if_pos (by omega)]) hz
  refine Ev.bind (f := fun k (bt : List S72 × Int × Int) => (if bt.2.2 = 0 then ((asset_plain.f k bt.1).bind fun t154 => ((asset_smaller.f k kind t154).bind fun t157 => ((asset_joined.f t157).bind fun t160 => (some (t160, 0, 0))))) else (some ((⟨#[]⟩ : ByteArray), bt.2.1, bt.2.2)))) hdv ?_
  refine Ev.congr (fun k => by rw [if_pos rfl]) ?_
  refine Ev.bind (f := fun k t154 => ((asset_smaller.f k kind t154).bind fun t157 => ((asset_joined.f t157).bind fun t160 => (some (t160, 0, 0))))) (plain_ex zs hn) ?_
  refine Ev.bind (f := fun k t157 => ((asset_joined.f t157).bind fun t160 => (some (t160, 0, 0)))) (smaller_ex kind _ hm hc) ?_
  refine Ev.congr (fun k => by rw [joined_ex _ (Nat.le_trans (smR_len _ _ _) hm) (Nat.le_trans (smR_total _ _ _) ht)]; rfl) (Ev.now _)
theorem read_ok {s : ByteArray} (kind : Int) (hk : kind = 1 ∨ kind = 2) (hs : s.size ≤ 20000) {zs : List S72} {p : Int} (hz : Ev (fun k => dvLoop k s (kind == 2) [] 0) (zs, p, 0)) (hn : zs.length ≤ 20000) : Ev (fun k => readTokens k kind s) (zs.map (·.f0), p, 0) := by
  have hdv : Ev (fun k => asset_tokens.f k s (kind == 2)) (zs, p, 0) := by
    refine Ev.congr (fun k => by unfold asset_tokens.f; rw [if_neg (by omega)]) ?_
    exact Ev.bind (f := fun k (bt : List S72 × Int × Int) => some (bt.1, bt.2.1, bt.2.2)) (Ev.congr (fun k => by unfold asset_divided.f; rw [if_pos (by omega)]) hz) (Ev.now _)
  refine Ev.congr (f := fun k => (asset_tokens.f k s (kind == 2)).bind fun bt => ((asset_plain.f k bt.1).bind fun t => (some (t, bt.2.1, bt.2.2)))) (fun k => ?_) ?_
  · unfold readTokens
    rcases hk with q | q
    · subst q; rw [if_neg (by decide)]; rfl
    · subst q; rw [if_pos rfl]; rfl
  · refine Ev.bind (f := fun k (bt : List S72 × Int × Int) => ((asset_plain.f k bt.1).bind fun t => (some (t, bt.2.1, bt.2.2)))) hdv ?_
    exact Ev.bind (f := fun k t => (some (t, p, (0 : Int)))) (plain_ex zs hn) (Ev.now _)
theorem law_error (kind : Int) (s : ByteArray) {p e : Int} (h : Ev (fun k => asset_Minify.f k kind s) (⟨#[]⟩, p, e)) (he : e ≠ 0) : ∃ k, mastkeep2_AssetSame.f k kind s = some true := by
  refine Ev.rounds ?_
  unfold mastkeep2_AssetSame.f
  refine Ev.bind (f := fun k (t : ByteArray × Int × Int) => if t.2.2 = 0 then
    (readTokens k kind s).bind fun l => (readTokens k kind t.1).bind fun m => (asset_Smaller.f k kind l.1).bind fun a => (asset_Minify.f k kind t.1).bind fun u =>
      if l.2.2 = 0 ∧ m.2.2 = 0 ∧ a.2 = 0 ∧ u.2.2 = 0 then (asset_Token.f k a.1 m.1).bind fun q => if q = true ∧ u.1 = t.1 ∧ t.1.size ≤ s.size then some true else none
      else none
    else if t.1 = ⟨#[]⟩ then some true else none) h ?_
  exact Ev.congr (fun k => by rw [if_neg he, if_pos rfl]) (Ev.now _)
theorem AssetSame (kind : Int) (s : ByteArray) : ∃ k, mastkeep2_AssetSame.f k kind s = some true := by
  by_cases hs : (s.size : Int) > 20000
  · exact law_error kind s (p := 0) (e := 4) (Ev.congr (fun k => by unfold asset_Minify.f; rw [if_pos hs]) (Ev.now _)) (by decide)
  · have hs' : s.size ≤ 20000 := by omega
    by_cases hk : kind = 1 ∨ kind = 2
    · have hkb : (kind == 2) = true → kind ≠ 1 := fun h => by have := beq_iff_eq.1 h; omega
      obtain ⟨⟨z, p, e⟩, hr, hx⟩ := dv_ex (kind == 2) hs' s.size 0 [] (Nat.zero_le _) (by omega) (Nat.le_refl _)
      by_cases he : e = 0
      · subst he
        obtain ⟨zs, hz, g⟩ := hx rfl
        have hz' : z = zs := by simpa using hz
        subst hz'
        have hn : z.length ≤ 20000 := by have := g.n; rw [List.length_map] at this; omega
        have ht : total (z.map (·.f0)) ≤ 20000 := by have := g.t; omega
        obtain ⟨ts, hts⟩ : ∃ ts, z.map (·.f0) = ts := ⟨_, rfl⟩
        have gv := g.v
        have gc := g.c
        have gt := g.t
        have hlt : ts.length ≤ 20000 := by rw [← hts, List.length_map]; exact hn
        have m1 := minify_ok kind hk hs' hr hn gc ht
        have r1 := read_ok kind hk hs' hr hn
        rw [hts] at gv gc gt m1 r1 ht
        obtain ⟨sv, sc, sa⟩ := small_ok hkb gv gc
        obtain ⟨a, ha⟩ : ∃ a, smR kind none ts = a := ⟨_, rfl⟩
        have hal : a.length ≤ 20000 := by rw [← ha]; exact Nat.le_trans (smR_len _ _ _) hlt
        have hat : total a ≤ total ts := by rw [← ha]; exact smR_total _ _ _
        have hsm : Ev (fun k => asset_Smaller.f k kind ts) (a, 0) := by
          refine Ev.congr (f := fun k => asset_Smaller.j0 k kind ts false) (fun k => ?_) ?_
          · unfold asset_Smaller.f
            rcases hk with q | q
            · rw [if_pos q]
            · rw [if_neg (by omega), q]; rfl
          · refine Ev.step (f := fun k => (asset_tokensFault.f k ts).bind fun t184 => (if t184 = 0 then ((asset_smaller.f k kind ts).bind fun t185 => (some (t185, 0))) else (some (([] : List (S33)), t184)))) (fun k => by rw [asset_Smaller.j0, if_neg Bool.false_ne_true]) ?_
            refine Ev.bind (f := fun k (t184 : Int) => (if t184 = 0 then ((asset_smaller.f k kind ts).bind fun t185 => (some (t185, 0))) else (some (([] : List (S33)), t184)))) (fault_ex ts hlt gv (by omega)) ?_
            refine Ev.congr (fun k => by rw [if_pos rfl]) ?_
            exact Ev.bind (f := fun k t185 => some (t185, (0 : Int))) (ha ▸ smaller_ex kind ts hlt gc) (Ev.now _)
        rw [ha] at m1 sv sc sa
        obtain ⟨t, htt⟩ : ∃ t : ByteArray, (⟨(jdText a).toArray⟩ : ByteArray) = t := ⟨_, rfl⟩
        have hby : by_ t = jdText a := by rw [← htt]
        have hsz : t.size = total a := by rw [← by_len, hby, total_jd]
        rw [htt] at m1
        have hts2 : t.size ≤ 20000 := by omega
        obtain ⟨z2, hz2, hr2⟩ := relex (s := t) (kind == 2) hts2 a 0 [] (by rw [List.drop_zero]; exact hby) (Nat.zero_le _) sv sc (Nat.le_refl _)
        rw [List.nil_append] at hr2
        have hn2 : z2.length ≤ 20000 := by have := congrArg List.length hz2; rw [List.length_map] at this; omega
        have r2 := read_ok kind hk hts2 hr2 hn2
        have m2 := minify_ok kind hk hts2 hr2 hn2 (b := kind == 2) (by rw [hz2]; exact sc) (by rw [hz2]; omega)
        rw [hz2] at r2 m2
        rw [sa, htt] at m2
        refine Ev.rounds ?_
        unfold mastkeep2_AssetSame.f
        refine Ev.bind (f := fun k (t : ByteArray × Int × Int) => if t.2.2 = 0 then
          (readTokens k kind s).bind fun l => (readTokens k kind t.1).bind fun m => (asset_Smaller.f k kind l.1).bind fun a => (asset_Minify.f k kind t.1).bind fun u =>
            if l.2.2 = 0 ∧ m.2.2 = 0 ∧ a.2 = 0 ∧ u.2.2 = 0 then (asset_Token.f k a.1 m.1).bind fun q => if q = true ∧ u.1 = t.1 ∧ t.1.size ≤ s.size then some true else none
            else none
          else if t.1 = ⟨#[]⟩ then some true else none) m1 ?_
        refine Ev.congr (fun k => by rw [if_pos rfl]) ?_
        refine Ev.bind (f := fun k (l : List S33 × Int × Int) => (readTokens k kind t).bind fun m => (asset_Smaller.f k kind l.1).bind fun a => (asset_Minify.f k kind t).bind fun u =>
            if l.2.2 = 0 ∧ m.2.2 = 0 ∧ a.2 = 0 ∧ u.2.2 = 0 then (asset_Token.f k a.1 m.1).bind fun q => if q = true ∧ u.1 = t ∧ t.size ≤ s.size then some true else none
            else none) r1 ?_
        refine Ev.bind (f := fun k (m : List S33 × Int × Int) => (asset_Smaller.f k kind ts).bind fun a => (asset_Minify.f k kind t).bind fun u =>
            if (0 : Int) = 0 ∧ m.2.2 = 0 ∧ a.2 = 0 ∧ u.2.2 = 0 then (asset_Token.f k a.1 m.1).bind fun q => if q = true ∧ u.1 = t ∧ t.size ≤ s.size then some true else none
            else none) r2 ?_
        refine Ev.bind (f := fun k (a' : List S33 × Int) => (asset_Minify.f k kind t).bind fun u =>
            if (0 : Int) = 0 ∧ (0 : Int) = 0 ∧ a'.2 = 0 ∧ u.2.2 = 0 then (asset_Token.f k a'.1 a).bind fun q => if q = true ∧ u.1 = t ∧ t.size ≤ s.size then some true else none
            else none) hsm ?_
        refine Ev.bind (f := fun k (u : ByteArray × Int × Int) =>
            if (0 : Int) = 0 ∧ (0 : Int) = 0 ∧ (0 : Int) = 0 ∧ u.2.2 = 0 then (asset_Token.f k a a).bind fun q => if q = true ∧ u.1 = t ∧ t.size ≤ s.size then some true else none
            else none) m2 ?_
        refine Ev.congr (f := fun k => (asset_Token.f k a a).bind fun q => if q = true ∧ t = t ∧ t.size ≤ s.size then some true else none) (fun k => by rw [if_pos ⟨rfl, rfl, rfl, rfl⟩]) ?_
        refine Ev.bind (f := fun k (q : Bool) => if q = true ∧ t = t ∧ t.size ≤ s.size then some true else none) (token_ex a hal) ?_
        exact Ev.congr (fun k => by rw [if_pos ⟨rfl, rfl, by omega⟩]) (Ev.now _)
      · refine law_error kind s (p := p) (e := e) ?_ he
        have h1 : ∀ k, asset_Minify.f k kind s = asset_Minify.j0 k kind s false := fun k => by
          unfold asset_Minify.f
          rw [if_neg (by omega)]
          rcases hk with q | q
          · rw [if_pos q]
          · rw [if_neg (by omega), q]; rfl
        refine Ev.congr h1 ?_
        refine Ev.step (f := fun k => (asset_divided.f k s (kind == 2)).bind fun bt => (if bt.2.2 = 0 then ((asset_plain.f k bt.1).bind fun t154 => ((asset_smaller.f k kind t154).bind fun t157 => ((asset_joined.f t157).bind fun t160 => (some (t160, 0, 0))))) else (some ((⟨#[]⟩ : ByteArray), bt.2.1, bt.2.2)))) (fun k => by rw [asset_Minify.j0, if_neg Bool.false_ne_true]) ?_
        have hdv : Ev (fun k => asset_divided.f k s (kind == 2)) (z, p, e) := Ev.congr (fun k => by unfold asset_divided.f; rw [if_pos (by omega)]; rfl) hr
        refine Ev.bind (f := fun k (bt : List S72 × Int × Int) => (if bt.2.2 = 0 then ((asset_plain.f k bt.1).bind fun t154 => ((asset_smaller.f k kind t154).bind fun t157 => ((asset_joined.f t157).bind fun t160 => (some (t160, 0, 0))))) else (some ((⟨#[]⟩ : ByteArray), bt.2.1, bt.2.2)))) hdv ?_
        exact Ev.congr (fun k => by rw [if_neg he]) (Ev.now _)
    · refine law_error kind s (p := 0) (e := 10) ?_ (by decide)
      refine Ev.congr (f := fun k => asset_Minify.j0 k kind s true) (fun k => ?_) (Ev.pos (fun k => by rw [asset_Minify.j0, if_pos rfl]))
      unfold asset_Minify.f
      rw [if_neg hs, if_neg (by omega)]
      have : (kind != 2) = true := by simp; omega
      rw [this]
end Go.Proofs.Ytllpaepiiiedgaa.PAssetSame
