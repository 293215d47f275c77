/- For the law RuleRound: what is read of a test of a rule; boxes of a call's own. No condition. -/
import Derived.Test.YtilmjckpphlniaaDoorPRuleRoundx0
import Derived.Test.YtilmjckpphlniaaDoorSPlain
namespace Go.Proofs.YtilmjckpphlniaaDoor.PRuleRound
open Go.RowKit Go.Proofs.YtilmjckpphlniaaDoorW.PrintWords Go.Proofs.YtilmjckpphlniaaDoorW.PrintLast Go.Proofs.YtilmjckpphlniaaDoorW.PrintMore
set_option linter.unusedVariables false
set_option linter.unusedSimpArgs false
theorem k47_heap : Kd.Heap k47 := Kd.heap_fix (fun _ h_ => Kd.heap_iso _ (Kd.heap_pair (Kd.heap_int .i64) (Kd.heap_pair (Kd.heap_int .i64) (Kd.heap_pair (Kd.heap_int .i64) (Kd.heap_pair (Kd.heap_int .i64) (Kd.heap_slice 47 h_))))))
theorem k47_openF {W : World} {ok : Nat → Prop} {x : S47} {cs : List Value} (h : Kd.FK k47 W ok x cs) : ∃ A4 c4, cs = [.int .i64 x.f0, .int .i64 x.f1, .int .i64 x.f2, .int .i64 x.f3, .slice A4 x.f4.length c4] ∧ x.f4.length ≤ c4 ∧ Kd.F k47 W ok A4 x.f4.length x.f4 := by
  obtain ⟨A4, c4, rfl, l4, _⟩ := k47_open (Kd.FK_now h)
  exact ⟨A4, c4, rfl, l4, fun W' hW => by
    obtain ⟨A4_, c4_, he, l4_, g4_⟩ := k47_open (h W' hW)
    injection (Option.some.inj (show some (Value.slice A4 x.f4.length c4) = some (Value.slice A4_ x.f4.length c4_) from congrArg (fun l => l[4]?) he)) with ha_ _ _
    rw [ha_]
    exact g4_⟩
theorem k47_mkF (W : World) (ok : Nat → Prop) (x : S47) {A4 : Option Addr} {c4 : Nat} (l4 : x.f4.length ≤ c4) (g4 : Kd.F k47 W ok A4 x.f4.length x.f4) : Kd.FK k47 W ok x [.int .i64 x.f0, .int .i64 x.f1, .int .i64 x.f2, .int .i64 x.f3, .slice A4 x.f4.length c4] := fun W2 hW => k47_mk W2 x l4 (g4 W2 hW)
/-- a test's row, read at a world, and the blocks it lies in -/
def RtF (w : World) (ok : Nat → Prop) (v : S47) (A4 : Option Addr) (c4 : Nat) : Prop := Kd.F k47 w ok A4 v.f4.length v.f4 ∧ v.f4.length ≤ c4
section
variable {w W : World} {ok ok' : Nat → Prop} {v : S47} {A4 : Option Addr} {c4 : Nat}
theorem RtF.below (h : RtF w ok v A4 c4) (hb : Below w.heap.size w W) : RtF W ok v A4 c4 := ⟨Kd.F_below h.1 hb, h.2⟩
theorem RtF.mono (h : RtF w ok v A4 c4) (hm : ∀ k, ok k → ok' k) : RtF w ok' v A4 c4 := ⟨Kd.F_mono h.1 hm, h.2⟩
theorem RtF.bound (h : RtF w ok v A4 c4) : RtF w (fun k => ok k ∧ k < w.heap.size) v A4 c4 := ⟨Kd.F_bound h.1, h.2⟩
theorem RtF.step (h : RtF w ok v A4 c4) (hm : ∀ k, ok k → k < w.heap.size → W.heap[k]? = w.heap[k]?) : RtF W ok v A4 c4 := ⟨Kd.F_step h.1 hm, h.2⟩
theorem RtF.nil (w : World) (ok : Nat → Prop) (a b c d : Int) : RtF w ok ⟨a, b, c, d, []⟩ none 0 := ⟨Kd.F_nil _ _ _, Nat.le_refl _⟩
theorem at_F47 {A : Option Addr} {n : Nat} {xs : List S47} (h : Kd.F k47 w ok A n xs) (i : Int) (h0 : 0 ≤ i) (h1 : i < n) : ∃ ad A4 c4, A = some ad ∧ w.cell? (ad.add (i.toNat * 5)) = some (.int .i64 (rd_T47 xs i).f0) ∧ w.cell? ⟨(ad.add (i.toNat * 5)).block, (ad.add (i.toNat * 5)).off + 1, none⟩ = some (.int .i64 (rd_T47 xs i).f1) ∧ w.cell? ⟨(ad.add (i.toNat * 5)).block, (ad.add (i.toNat * 5)).off + 2, none⟩ = some (.int .i64 (rd_T47 xs i).f2) ∧ w.cell? ⟨(ad.add (i.toNat * 5)).block, (ad.add (i.toNat * 5)).off + 3, none⟩ = some (.int .i64 (rd_T47 xs i).f3) ∧ w.cell? ⟨(ad.add (i.toNat * 5)).block, (ad.add (i.toNat * 5)).off + 4, none⟩ = some (.slice A4 (rd_T47 xs i).f4.length c4) ∧ RtF w ok (rd_T47 xs i) A4 c4 := by
  obtain ⟨ad, c, e, _, hK, hc0, _⟩ := Kd.F_get h z47 i h0 h1
  have hc : ∀ j u, c[j]? = some u → w.cell? (ad.add (i.toNat * 5 + j)) = some u := hc0
  obtain ⟨A4, c4, rfl, l4, g4⟩ := k47_openF hK
  exact ⟨ad, A4, c4, e, hc 0 _ rfl, by rw [← add_field _ _ 1 (by omega)]; exact hc 1 _ rfl, by rw [← add_field _ _ 2 (by omega)]; exact hc 2 _ rfl, by rw [← add_field _ _ 3 (by omega)]; exact hc 3 _ rfl, by rw [← add_field _ _ 4 (by omega)]; exact hc 4 _ rfl, ⟨g4, l4⟩⟩
end
theorem info9r : (Tryd.prog.info? 9).map (fun i => (i.zero, i.size, i.bytes)) = some (some (.string ⟨#[]⟩), 1, 16) := by kernel_rfl
/-- boxes of the call's own, the newest first: block, cells, type -/
structure Bs (w W : World) (l : List (Nat × Array Value × Nat)) : Prop where
  blk : ∀ (i : Nat) (p : Nat × Array Value × Nat), l[i]? = some p → W.heap[p.1]? = some (.cells p.2.1 p.2.2 (0, 0))
  B : Below w.heap.size w W
  ge : ∀ (i : Nat) (p : Nat × Array Value × Nat), l[i]? = some p → w.heap.size ≤ p.1
  nd : ∀ (i j : Nat) (p q : Nat × Array Value × Nat), i < j → l[i]? = some p → l[j]? = some q → q.1 < p.1
namespace Bs
variable {w W W1 : World} {l : List (Nat × Array Value × Nat)} {g t : Nat} {cs : Array Value}
theorem nil (w : World) : Bs w w [] := ⟨fun _ _ h => by simp at h, Below.refl _ _, fun _ _ h => by simp at h, fun _ _ _ _ _ h => by simp at h⟩
theorem below (h : Bs w W l) (hb : Below W.heap.size W W1) : Bs w W1 l := ⟨fun i p hp => blk_below (h.blk i p hp) hb, below_step h.B hb, h.ge, h.nd⟩
theorem size (h : Bs w W l) : w.heap.size ≤ W.heap.size := h.B.size
theorem new (h : Bs w W l) (hg : g = W.heap.size) (hc : W1.heap[g]? = some (.cells cs t (0, 0))) (hb : Below W.heap.size W W1) : Bs w W1 ((g, cs, t) :: l) := by
  have h1 := h.below hb
  refine ⟨fun i p hp => ?_, h1.B, fun i p hp => ?_, fun i j p q hij hp hq => ?_⟩
  · cases i with
    | zero => simp at hp; subst hp; exact hc
    | succ i => exact h1.blk i p (by simpa using hp)
  · cases i with
    | zero => simp at hp; subst hp; show w.heap.size ≤ g; rw [hg]; exact h.size
    | succ i => exact h.ge i p (by simpa using hp)
  · cases j with
    | zero => omega
    | succ j =>
      have hq' : l[j]? = some q := by simpa using hq
      cases i with
      | zero => simp at hp; subst hp; show q.1 < g; rw [hg]; exact blk_lt (h.blk j q hq')
      | succ i => exact h.nd i j p q (by omega) (by simpa using hp) hq'
theorem get (h : Bs w W l) (i : Nat) (hi : l[i]? = some (g, cs, t)) : W.heap[g]? = some (.cells cs t (0, 0)) := h.blk i _ hi
theorem low (h : Bs w W l) (i : Nat) (hi : l[i]? = some (g, cs, t)) : w.heap.size ≤ g := h.ge i _ hi
theorem lt (h : Bs w W l) (i : Nat) (hi : l[i]? = some (g, cs, t)) : g < W.heap.size := blk_lt (h.blk i _ hi)
theorem tail {p : Nat × Array Value × Nat} (h : Bs w W (p :: l)) : Bs w W l :=
  ⟨fun i q hq => h.blk (i + 1) q (by simpa using hq), h.B, fun i q hq => h.ge (i + 1) q (by simpa using hq), fun i j q r hij hq hr => h.nd (i + 1) (j + 1) q r (by omega) (by simpa using hq) (by simpa using hr)⟩
theorem put (h : Bs w W l) (i : Nat) (hi : l[i]? = some (g, cs, t)) (j : Nat) (v : Value) : Bs w (W.setCell ⟨g, j, none⟩ v) (l.set i (g, cs.setIfInBounds j v, t)) := by
  have key : ∀ (k : Nat) (p : Nat × Array Value × Nat), (l.set i (g, cs.setIfInBounds j v, t))[k]? = some p → (k = i ∧ p = (g, cs.setIfInBounds j v, t)) ∨ (k ≠ i ∧ l[k]? = some p) := by
    intro k p hp
    by_cases e : i = k
    · subst e
      have hl : i < l.length := (List.getElem?_eq_some_iff.1 hi).1
      rw [List.getElem?_set_self hl] at hp
      injection hp with hp
      exact .inl ⟨rfl, hp.symm⟩
    · rw [List.getElem?_set_ne e] at hp
      exact .inr ⟨fun h_ => e h_.symm, hp⟩
  have hne : ∀ (k : Nat) (p : Nat × Array Value × Nat), k ≠ i → l[k]? = some p → p.1 ≠ g := by
    intro k p hk hp he
    rcases Nat.lt_or_gt_of_ne hk with hlt | hlt
    · have := h.nd k i _ _ hlt hp hi; dsimp only at this; omega
    · have := h.nd i k _ _ hlt hi hp; dsimp only at this; omega
  refine ⟨fun k p hp => ?_, below_set h.B (h.ge i _ hi), fun k p hp => ?_, fun a b p q hab hp hq => ?_⟩
  · rcases key k p hp with ⟨_, rfl⟩ | ⟨hk, hp'⟩
    · exact blk_put (h.blk i _ hi) j v rfl
    · exact blk_far (h.blk k p hp') (hne k p hk hp') v
  · rcases key k p hp with ⟨_, rfl⟩ | ⟨_, hp'⟩
    · exact h.ge _ (g, cs, t) hi
    · exact h.ge k p hp'
  · rcases key a p hp with ⟨rfl, rfl⟩ | ⟨_, hp'⟩ <;> rcases key b q hq with ⟨rfl, rfl⟩ | ⟨_, hq'⟩
    · omega
    · exact h.nd _ _ (g, cs, t) q hab hi hq'
    · exact h.nd _ _ p (g, cs, t) hab hp' hi
    · exact h.nd _ _ p q hab hp' hq'
theorem grown (h : Bs w W l) {row : Option Nat} (hg : W.grownBy W1 row) (hb : Below w.heap.size w W1) (hr : ∀ (i : Nat) (p : Nat × Array Value × Nat), l[i]? = some p → some p.1 ≠ row) : Bs w W1 l :=
  ⟨fun i p hp => blk_grown (h.blk i p hp) hg (hr i p hp), hb, h.ge, h.nd⟩
theorem put' (h : Bs w W l) (i : Nat) (hi : l[i]? = some (g, cs, t)) (j : Nat) (v : Value) {cs' : Array Value} (e : cs.setIfInBounds j v = cs') : Bs w (W.setCell ⟨g, j, none⟩ v) (l.set i (g, cs', t)) ∧ (l.set i (g, cs', t))[i]? = some (g, cs', t) :=
  e ▸ ⟨h.put i hi j v, List.getElem?_set_self (List.getElem?_eq_some_iff.1 hi).1⟩
theorem three {c0 c1 c2 : Value} (h : Bs w W l) (i : Nat) (hi : l[i]? = some (g, #[c0, c1, c2], t)) (v0 v1 v2 : Value) :
    Bs w (((W.setCell ⟨g, 0, none⟩ v0).setCell ⟨g, 1, none⟩ v1).setCell ⟨g, 2, none⟩ v2) (l.set i (g, #[v0, v1, v2], t)) := by
  obtain ⟨a0, b0⟩ := h.put' i hi 0 v0 (cs' := #[v0, c1, c2]) rfl
  obtain ⟨a1, b1⟩ := a0.put' i b0 1 v1 (cs' := #[v0, v1, c2]) rfl
  obtain ⟨a2, _⟩ := a1.put' i b1 2 v2 (cs' := #[v0, v1, v2]) rfl
  rw [List.set_set, List.set_set] at a2
  exact a2
end Bs
theorem Bs.five {w W : World} {l : List (Nat × Array Value × Nat)} {g t : Nat} {c0 c1 c2 c3 c4 : Value} (h : Bs w W l) (i : Nat) (hi : l[i]? = some (g, #[c0, c1, c2, c3, c4], t)) (v0 v1 v2 v3 v4 : Value) :
    Bs w (((((W.setCell ⟨g, 0, none⟩ v0).setCell ⟨g, 1, none⟩ v1).setCell ⟨g, 2, none⟩ v2).setCell ⟨g, 3, none⟩ v3).setCell ⟨g, 4, none⟩ v4) (l.set i (g, #[v0, v1, v2, v3, v4], t)) := by
  obtain ⟨a0, b0⟩ := h.put' i hi 0 v0 (cs' := #[v0, c1, c2, c3, c4]) rfl
  obtain ⟨a1, b1⟩ := a0.put' i b0 1 v1 (cs' := #[v0, v1, c2, c3, c4]) rfl
  obtain ⟨a2, b2⟩ := a1.put' i b1 2 v2 (cs' := #[v0, v1, v2, c3, c4]) rfl
  obtain ⟨a3, b3⟩ := a2.put' i b2 3 v3 (cs' := #[v0, v1, v2, v3, c4]) rfl
  obtain ⟨a4, _⟩ := a3.put' i b3 4 v4 (cs' := #[v0, v1, v2, v3, v4]) rfl
  rw [List.set_set, List.set_set, List.set_set, List.set_set] at a4
  exact a4
theorem five_far {W : World} {g k : Nat} (hk : k ≠ g) (v0 v1 v2 v3 v4 : Value) : (((((W.setCell ⟨g, 0, none⟩ v0).setCell ⟨g, 1, none⟩ v1).setCell ⟨g, 2, none⟩ v2).setCell ⟨g, 3, none⟩ v3).setCell ⟨g, 4, none⟩ v4).heap[k]? = W.heap[k]? := by
  iterate 5 rw [Below.heap_setCell _ _ _ _ hk]
theorem RtF.five {W : World} {ok : Nat → Prop} {v : S47} {A4 : Option Addr} {c4 g : Nat} (h : RtF W ok v A4 c4) (hg : ∀ k, ok k → k < W.heap.size → k ≠ g) (v0 v1 v2 v3 v4 : Value) : RtF (((((W.setCell ⟨g, 0, none⟩ v0).setCell ⟨g, 1, none⟩ v1).setCell ⟨g, 2, none⟩ v2).setCell ⟨g, 3, none⟩ v3).setCell ⟨g, 4, none⟩ v4) ok v A4 c4 :=
  h.step fun k hk hlt => five_far (hg k hk hlt) _ _ _ _ _
/-- strings.Join over a row of the call's own -/
theorem join_calls (v : Value) (base : Nat) (ok : Nat → Prop) (xs : List ByteArray) (sep : ByteArray) (w : World) (h : Kd.R Kd.string 9 w base ok v xs) (hn : xs.length ≤ 1000000) (hlen : (Lib.join (xs.map (·.data.toList)) sep.data.toList).length ≤ 140737488355328) :
    Calls Tryd.prog 15 #[v, .string sep] w fun e w' => e = .returned (.string ⟨(Lib.join (xs.map (·.data.toList)) sep.data.toList).toArray⟩) ∧ Below w.heap.size w w' := by
  cases xs with
  | nil =>
    obtain ⟨A, c, rfl⟩ := Kd.R_slice h
    refine (Shelf.Tryd.strings_Join_none A c sep w).mono ?_
    rintro e w' ⟨rfl, rfl⟩
    exact ⟨rfl, Below.refl _ _⟩
  | cons x xs =>
    obtain ⟨A, c, rfl, hc, _⟩ := Kd.R_reads h
    have ho := Kd.own_of_R h
    rcases ho.2 with ⟨h', _⟩ | ⟨g, cap, cur, h', _, hh, _⟩
    · cases h'
    · injection h' with h1 h2 h3
      subst h1
      have hlt : g < w.heap.size := by
        apply Classical.byContradiction
        intro hn
        rw [Array.getElem?_eq_none (by omega)] at hh
        cases hh
      refine (Shelf.Tryd.strings_Join g 0 c (x :: xs) sep w (fun j y hj => ?_) hlt (by omega) hc hlen)
      have hlt : j < (x :: xs).length := (List.getElem?_eq_some_iff.1 hj).1
      have hcell := (Kd.R_cell ByteArray.empty h (j : Int) (by omega) (by omega)).1
      have hrd : rdOf ByteArray.empty (x :: xs) (j : Int) = y := by
        unfold rdOf
        rw [Int.toNat_natCast, List.getD_eq_getElem?_getD, hj]; rfl
      rw [hrd, Int.toNat_natCast] at hcell
      rw [Nat.zero_add]
      exact hcell
end Go.Proofs.YtilmjckpphlniaaDoor.PRuleRound
