/- For TreeTranslates: CheckSite comes to an answer. -/
import Derived.Test.YtcgmieeojngceaaDoorPureTreeTranslatesA
namespace Go.Proofs.YtcgmieeojngceaaDoor.Pure
open Go.RowKit Go.Proofs.YtcgmieeojngceaaDoor.PTreeTranslates Go.Proofs.YtcgmieeojngceaaDoorW.PrintWords Go.Proofs.YtcgmieeojngceaaDoorW.PrintLast Go.Proofs.YtcgmieeojngceaaDoorW.PrintMore
set_option linter.unusedVariables false
set_option linter.unusedSimpArgs false
theorem w2 {i : Nat} (h : 0 < i) (hn : i ≤ 4611686018427387904) : wrap64 ((i : Int) - 1) = ((i - 1 : Nat) : Int) := by rw [w64 (by omega) (by omega)]; omega
/-! ### Values: trees -/
def Fits : Nat → S37 → Prop
  | 0, _ => False
  | n + 1, x => x.f3.size ≤ 140737488351232 ∧ x.f4.length ≤ 140737488351232 ∧ x.f5.length ≤ 140737488351232 ∧ (∀ a ∈ x.f5, a.size ≤ 140737488351232) ∧ ∀ a ∈ x.f4, Fits n a
theorem rd37_mem {l : List S37} {i : Nat} (h : i < l.length) : rd_T37 l (i : Int) ∈ l := by
  unfold rd_T37
  rw [Int.toNat_natCast, List.getD_eq_getElem?_getD, List.getElem?_eq_getElem h]
  exact List.getElem_mem h
theorem count_loop (l : List S37) (hl : l.length ≤ 140737488351232) (hall : ∀ x ∈ l, Tt (fun k => conf_count.f k x.f0 x.f1 x.f2 x.f3 x.f4 x.f5) (fun _ => True)) :
    ∀ d i : Nat, i + d = l.length → ∀ a : Int, Tt (fun k => conf_count.l0 k a l (l.length : Int) (i : Int)) (fun _ => True)
  | 0, i, h, a => Tt.step (f := fun _ => some a) (fun k => by rw [conf_count.l0, if_neg (by omega)]) (Tt.some trivial)
  | d + 1, i, h, a => by
    have ih := count_loop l hl hall d (i + 1) (by omega)
    rw [← w1 (show i < l.length by omega) (by omega)] at ih
    have hx := hall _ (rd37_mem (show i < l.length by omega))
    refine Tt.step (fun k => by rw [conf_count.l0]) ?_
    repeat' first
      | exact ih _
      | exact Tt.some trivial
      | refine Tt.bind hx (fun _ _ _ => ?_)
      | refine Tt.ite (fun _ => ?_) (fun _ => ?_)
      | (exfalso; omega)
theorem count_tt : ∀ n (x : S37), Fits n x → Tt (fun k => conf_count.f k x.f0 x.f1 x.f2 x.f3 x.f4 x.f5) (fun _ => True)
  | 0, _, h => h.elim
  | n + 1, x, h => Tt.step (f := fun k => conf_count.l0 k 1 x.f4 (x.f4.length : Int) 0) (fun k => by rw [conf_count.f]) (count_loop x.f4 h.2.1 (fun y hy => count_tt n y (h.2.2.2.2 y hy)) x.f4.length 0 (by omega) 1)
theorem levels_loop (l : List S37) (hl : l.length ≤ 140737488351232) (hall : ∀ x ∈ l, Tt (fun k => conf_levels.f k x.f0 x.f1 x.f2 x.f3 x.f4 x.f5) (fun _ => True)) :
    ∀ d i : Nat, i + d = l.length → ∀ a : Int, Tt (fun k => conf_levels.l0 k a l (l.length : Int) (i : Int)) (fun _ => True)
  | 0, i, h, a => Tt.step (f := fun _ => some (wrap64 (a + 1))) (fun k => by rw [conf_levels.l0, if_neg (by omega)]) (Tt.some trivial)
  | d + 1, i, h, a => by
    have ih := levels_loop l hl hall d (i + 1) (by omega)
    rw [← w1 (show i < l.length by omega) (by omega)] at ih
    have hx := hall _ (rd37_mem (show i < l.length by omega))
    refine Tt.step (fun k => by rw [conf_levels.l0]) ?_
    repeat' first
      | exact ih _
      | exact Tt.some trivial
      | refine Tt.bind hx (fun _ _ _ => ?_)
      | refine Tt.ite (fun _ => ?_) (fun _ => ?_)
      | (exfalso; omega)
theorem levels_tt : ∀ n (x : S37), Fits n x → Tt (fun k => conf_levels.f k x.f0 x.f1 x.f2 x.f3 x.f4 x.f5) (fun _ => True)
  | 0, _, h => h.elim
  | n + 1, x, h => Tt.step (f := fun k => conf_levels.l0 k 0 x.f4 (x.f4.length : Int) 0) (fun k => by rw [conf_levels.f]) (levels_loop x.f4 h.2.1 (fun y hy => levels_tt n y (h.2.2.2.2 y hy)) x.f4.length 0 (by omega) 0)
theorem unused_tt (a0 : Int) (a1 : Bool) (a2 : Int) (a3 : ByteArray) (l4 : List S37) (l5 : List ByteArray) : Tt (fun k => conf_unused.f k a0 a1 a2 a3 l4 l5) (fun _ => True) := by
  have j2 : ∀ x y z b s, Tt (fun k => conf_unused.j2 k x y z b a2 s l4 l5) (fun _ => True) := fun x y z b s => by
    refine Tt.step (fun k => by rw [conf_unused.j2]) ?_
    repeat' first
      | exact Tt.some trivial
      | refine Tt.ite (fun _ => ?_) (fun _ => ?_)
  have j1 : ∀ x y z b s, Tt (fun k => conf_unused.j1 k x y z b a2 s l4 l5) (fun _ => True) := fun x y z b s => by
    refine Tt.step (fun k => by rw [conf_unused.j1]) ?_
    repeat' first
      | exact Tt.some trivial
      | exact j2 _ _ _ _ _
      | refine Tt.ite (fun _ => ?_) (fun _ => ?_)
  have j0 : ∀ x y z b s, Tt (fun k => conf_unused.j0 k x y z b a2 s l4 l5) (fun _ => True) := fun x y z b s => by
    refine Tt.step (fun k => by rw [conf_unused.j0]) ?_
    repeat' first
      | exact Tt.some trivial
      | exact j1 _ _ _ _ _
      | refine Tt.ite (fun _ => ?_) (fun _ => ?_)
  unfold conf_unused.f
  exact Tt.ite (fun _ => j0 _ _ _ _ _) (fun _ => j0 _ _ _ _ _)
theorem badBytes_loop (s : ByteArray) (hs : s.size ≤ 4611686018427387904) : ∀ d i : Nat, i + d = s.size → Tt (fun k => conf_badBytes.l0 k s (i : Int)) (fun _ => True)
  | 0, i, h => Tt.step (f := fun _ => some false) (fun k => by rw [conf_badBytes.l0, if_neg (by omega)]) (Tt.some trivial)
  | d + 1, i, h => by
    have ih := badBytes_loop s hs d (i + 1) (by omega)
    rw [← w1 (show i < s.size by omega) hs] at ih
    refine Tt.step (fun k => by rw [conf_badBytes.l0]) ?_
    repeat' first
      | exact ih
      | exact Tt.some trivial
      | refine Tt.ite (fun _ => ?_) (fun _ => ?_)
      | (exfalso; omega)
theorem cSmall_tt (c : Int) : Tt (fun _ => conf_isSmall.f c) (fun _ => True) := by
  unfold conf_isSmall.f
  exact Tt.ite (fun _ => Tt.some trivial) (fun _ => Tt.some trivial)
theorem cDigit_tt (c : Int) : Tt (fun _ => conf_isDigit.f c) (fun _ => True) := by
  unfold conf_isDigit.f
  exact Tt.ite (fun _ => Tt.some trivial) (fun _ => Tt.some trivial)
theorem badDay_tt (c : Int) : Tt (fun _ => conf_badDay.f c) (fun _ => True) := by
  unfold conf_badDay.f
  exact Tt.ite (fun _ => Tt.some trivial) (fun _ => Tt.some trivial)
theorem key_loop (s : ByteArray) (hs : s.size ≤ 4611686018427387904) : ∀ d i : Nat, i + d = s.size → Tt (fun k => conf_isKey.l0 k s (i : Int)) (fun _ => True)
  | 0, i, h => Tt.step (f := fun _ => some true) (fun k => by rw [conf_isKey.l0, if_neg (by omega)]) (Tt.some trivial)
  | d + 1, i, h => by
    have ih := key_loop s hs d (i + 1) (by omega)
    rw [← w1 (show i < s.size by omega) hs] at ih
    refine Tt.step (fun k => by rw [conf_isKey.l0]) ?_
    repeat' first
      | exact ih
      | exact Tt.some trivial
      | refine Tt.bind (cSmall_tt _) (fun _ _ _ => ?_)
      | refine Tt.bind (cDigit_tt _) (fun _ _ _ => ?_)
      | refine Tt.ite (fun _ => ?_) (fun _ => ?_)
      | (exfalso; omega)
theorem key_tt (s : ByteArray) (hs : s.size ≤ 4611686018427387904) : Tt (fun k => conf_isKey.f k s) (fun _ => True) := by
  have jt : Tt (fun k => conf_isKey.j0 k s true) (fun _ => True) := Tt.step (f := fun _ => some false) (fun k => by rw [conf_isKey.j0, if_pos rfl]) (Tt.some trivial)
  unfold conf_isKey.f
  refine Tt.ite (fun _ => jt) (fun hne => Tt.ite (fun _ => jt) (fun _ => Tt.ite (fun _ => Tt.bind (cSmall_tt _) (fun b _ _ => ?_)) (fun h => ?_)))
  · have hp := tl_ne hne
    have hl : Tt (fun k => conf_isKey.l0 k s 1) (fun _ => True) := key_loop s hs (s.size - 1) 1 (by omega)
    exact Tt.step (f := fun k => if (!b) = true then some false else conf_isKey.l0 k s 1) (fun k => by rw [conf_isKey.j0]) (Tt.ite (fun _ => Tt.some trivial) (fun _ => hl))
  · have hp := tl_ne hne
    exfalso; omega
theorem value_loop (l5 : List ByteArray) (hl : l5.length ≤ 140737488351232) (hall : ∀ s ∈ l5, s.size ≤ 140737488351232) (a0 : Int) (a1 : Bool) (a2 : Int) (a3 : ByteArray) (l4 : List S37) :
    ∀ d i : Nat, i + d = l5.length → Tt (fun k => conf_valueFault.l0 k l5 (l5.length : Int) (i : Int) a0 a1 a2 a3 l4 l5) (fun _ => True)
  | 0, i, h => Tt.step (f := fun _ => some 0) (fun k => by rw [conf_valueFault.l0, if_neg (by omega)]) (Tt.some trivial)
  | d + 1, i, h => by
    have ih := value_loop l5 hl hall a0 a1 a2 a3 l4 d (i + 1) (by omega)
    rw [← w1 (show i < l5.length by omega) (by omega)] at ih
    have hk := key_tt (rdOf ByteArray.empty l5 (i : Int)) (by rw [rdOf_at (show i < l5.length by omega)]; have := hall _ (List.getElem_mem (show i < l5.length by omega)); omega)
    refine Tt.step (fun k => by rw [conf_valueFault.l0]) ?_
    by_cases hi : 0 < i
    · rw [w2 hi (by omega)]
      repeat' first
        | exact ih
        | exact Tt.some trivial
        | refine Tt.bind hk (fun _ _ _ => ?_)
        | refine Tt.ite (fun _ => ?_) (fun _ => ?_)
        | (exfalso; omega)
    · refine Tt.ite (fun _ => Tt.ite (fun _ => Tt.ite (fun _ => Tt.bind hk (fun _ _ _ => Tt.ite (fun _ => Tt.ite (fun h => absurd h (by omega)) (fun _ => ih)) (fun _ => Tt.some trivial))) (fun h => ?_)) (fun h => ?_)) (fun _ => Tt.some trivial)
      all_goals (exfalso; omega)
theorem value_tt (a0 : Int) (a1 : Bool) (a2 : Int) (a3 : ByteArray) (l4 : List S37) (l5 : List ByteArray) (hl : l5.length ≤ 140737488351232) (hall : ∀ s ∈ l5, s.size ≤ 140737488351232) : Tt (fun k => conf_valueFault.f k a0 a1 a2 a3 l4 l5) (fun _ => True) := by
  have hL : Tt (fun k => conf_valueFault.l0 k l5 (l5.length : Int) 0 a0 a1 a2 a3 l4 l5) (fun _ => True) := value_loop l5 hl hall a0 a1 a2 a3 l4 l5.length 0 (by omega)
  have j1 : ∀ b, Tt (fun k => conf_valueFault.j1 k b a0 a1 a2 a3 l4 l5) (fun _ => True) := fun b => by
    refine Tt.step (fun k => by rw [conf_valueFault.j1]) ?_
    refine Tt.ite (fun _ => Tt.some trivial) (fun _ => Tt.ite (fun _ => Tt.some trivial) (fun h5 => Tt.bind (badBytes_loop a3 (by omega) a3.size 0 (by omega)) (fun _ _ _ => Tt.ite (fun _ => Tt.some trivial) (fun _ => hL))))
  have j0 : ∀ b, Tt (fun k => conf_valueFault.j0 k b a0 a1 a2 a3 l4 l5) (fun _ => True) := fun b => by
    refine Tt.step (fun k => by rw [conf_valueFault.j0]) ?_
    exact Tt.ite (fun _ => Tt.some trivial) (fun _ => Tt.bind (unused_tt _ _ _ _ _ _) (fun _ _ _ => Tt.ite (fun _ => Tt.some trivial) (fun _ => Tt.ite (fun _ => Tt.bind (badDay_tt _) (fun _ _ _ => j1 _)) (fun _ => j1 _))))
  unfold conf_valueFault.f
  exact Tt.ite (fun _ => j0 _) (fun _ => j0 _)
theorem values_loop (l : List S37) (hl : l.length ≤ 140737488351232) (hall : ∀ x ∈ l, Tt (fun k => conf_valuesFault.f k x.f0 x.f1 x.f2 x.f3 x.f4 x.f5) (fun _ => True)) :
    ∀ d i : Nat, i + d = l.length → Tt (fun k => conf_valuesFault.l0 k l (l.length : Int) (i : Int)) (fun _ => True)
  | 0, i, h => Tt.step (f := fun _ => some 0) (fun k => by rw [conf_valuesFault.l0, if_neg (by omega)]) (Tt.some trivial)
  | d + 1, i, h => by
    have ih := values_loop l hl hall d (i + 1) (by omega)
    rw [← w1 (show i < l.length by omega) (by omega)] at ih
    have hx := hall _ (rd37_mem (show i < l.length by omega))
    refine Tt.step (fun k => by rw [conf_valuesFault.l0]) ?_
    repeat' first
      | exact ih
      | exact Tt.some trivial
      | refine Tt.bind hx (fun _ _ _ => ?_)
      | refine Tt.ite (fun _ => ?_) (fun _ => ?_)
      | (exfalso; omega)
theorem values_tt : ∀ n (x : S37), Fits n x → Tt (fun k => conf_valuesFault.f k x.f0 x.f1 x.f2 x.f3 x.f4 x.f5) (fun _ => True)
  | 0, _, h => h.elim
  | n + 1, x, h => Tt.step (f := fun k => (conf_valueFault.f k x.f0 x.f1 x.f2 x.f3 x.f4 x.f5).bind fun t => if t = 0 then conf_valuesFault.l0 k x.f4 (x.f4.length : Int) 0 else some t) (fun k => by rw [conf_valuesFault.f])
      (Tt.bind (value_tt _ _ _ _ _ _ h.2.2.1 h.2.2.2.1) (fun _ _ _ => Tt.ite (fun _ => values_loop x.f4 h.2.1 (fun y hy => values_tt n y (h.2.2.2.2 y hy)) x.f4.length 0 (by omega)) (fun _ => Tt.some trivial)))
/-! a table that is right has as many items as keys -/
theorem unused_len {k : Nat} {a1 : Bool} {a2 : Int} {a3 : ByteArray} {l4 : List S37} {l5 : List ByteArray} (h : conf_unused.f k 6 a1 a2 a3 l4 l5 = some false) : l5.length = l4.length := by
  have j2 : ∀ {k y z b s}, conf_unused.j2 k 6 y z b a2 s l4 l5 = some false → l5.length = l4.length := by
    intro k y z b s h
    cases k with
    | zero => rw [conf_unused.j2] at h; cases h
    | succ k =>
      rw [conf_unused.j2] at h
      split at h
      · cases h
      · rw [if_pos rfl, if_pos rfl, ite_self] at h
        injection h with h
        have h2 : (l5.length : Int) = (l4.length : Int) := by simpa using h
        omega
  have j1 : ∀ {k y z b s}, conf_unused.j1 k 6 y z b a2 s l4 l5 = some false → l5.length = l4.length := by
    intro k y z b s h
    cases k with
    | zero => rw [conf_unused.j1] at h; cases h
    | succ k =>
      rw [conf_unused.j1] at h
      repeat' split at h
      all_goals first | cases h; done | exact j2 h
  have j0 : ∀ {k y z b s}, conf_unused.j0 k 6 y z b a2 s l4 l5 = some false → l5.length = l4.length := by
    intro k y z b s h
    cases k with
    | zero => rw [conf_unused.j0] at h; cases h
    | succ k =>
      rw [conf_unused.j0] at h
      repeat' split at h
      all_goals first | cases h; done | exact j1 h
  unfold conf_unused.f at h
  split at h
  · exact j0 h
  · exact j0 h
theorem value_len {k : Nat} {a1 : Bool} {a2 : Int} {a3 : ByteArray} {l4 : List S37} {l5 : List ByteArray} (h : conf_valueFault.f k 6 a1 a2 a3 l4 l5 = some 0) : l5.length = l4.length := by
  have j0 : ∀ {k b}, conf_valueFault.j0 k b 6 a1 a2 a3 l4 l5 = some 0 → l5.length = l4.length := by
    intro k b h
    cases k with
    | zero => rw [conf_valueFault.j0] at h; cases h
    | succ k =>
      rw [conf_valueFault.j0] at h
      split at h
      · cases h
      · obtain ⟨u, hu, h2⟩ := Option.bind_eq_some_iff.1 h
        cases u
        · exact unused_len hu
        · cases h2
  unfold conf_valueFault.f at h
  split at h
  · exact j0 h
  · exact j0 h
theorem check_len {k : Nat} {a0 : Int} {a1 : Bool} {a2 : Int} {a3 : ByteArray} {l4 : List S37} {l5 : List ByteArray} (h : conf_Check.f k a0 a1 a2 a3 l4 l5 = some 0) (h6 : a0 = 6) : l5.length = l4.length := by
  subst h6
  unfold conf_Check.f at h
  obtain ⟨c, _, h⟩ := Option.bind_eq_some_iff.1 h
  split at h
  · cases h
  obtain ⟨c2, _, h⟩ := Option.bind_eq_some_iff.1 h
  split at h
  · cases h
  obtain ⟨c3, hv, h⟩ := Option.bind_eq_some_iff.1 h
  cases h
  cases k with
  | zero => rw [conf_valuesFault.f] at hv; cases hv
  | succ k =>
    rw [conf_valuesFault.f] at hv
    obtain ⟨t, ht, hv⟩ := Option.bind_eq_some_iff.1 hv
    split at hv
    · rename_i h0
      subst h0
      exact value_len ht
    · rename_i h0
      injection hv with hv
      exact absurd hv h0
theorem check_tt (n : Nat) (x : S37) (hx : Fits n x) : Tt (fun k => conf_Check.f k x.f0 x.f1 x.f2 x.f3 x.f4 x.f5) (fun _ => True) := by
  unfold conf_Check.f
  exact Tt.bind (count_tt n x hx) (fun _ _ _ => Tt.ite (fun _ => Tt.some trivial) (fun _ => Tt.bind (levels_tt n x hx) (fun _ _ _ => Tt.ite (fun _ => Tt.some trivial) (fun _ => Tt.bind (values_tt n x hx) (fun _ _ _ => Tt.some trivial)))))
end Go.Proofs.YtcgmieeojngceaaDoor.Pure
