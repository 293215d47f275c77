-- Made for this claim by a program of this session (xprint.py over the kit's printing program); Lean checks it.
import Derived.Test.YtakpmgfpenbmkaaDoorPListPartsx0
namespace Go.Proofs.YtakpmgfpenbmkaaDoor.PListParts
open Go.RowKit Go.Proofs.YtakpmgfpenbmkaaDoorW.PrintWords Go.Proofs.YtakpmgfpenbmkaaDoorW.PrintLast Go.Proofs.YtakpmgfpenbmkaaDoorW.PrintMore
attribute [local go_sem] max2_int min2_int max_two min_two max_three min_three max_four min_four   -- for this text's walks alone
set_option linter.unusedVariables false
set_option linter.unusedSimpArgs false

/-! ### mastkeep2_awakeList: function 4 -/
theorem al_heap_set {w : World} {g i : Nat} {t : TypeId} {cs : Array Value} {u : Value} (h : w.heap[g]? = some (.cells cs t (0, 0))) : (w.setCell ⟨g, i, none⟩ u).heap[g]? = some (.cells (cs.setIfInBounds i u) t (0, 0)) := by
  simp [World.setCell, Array.getElem?_modify, h]
theorem al_bset {B b i : Nat} {w w' : World} {v : Value} (h : Below B w w') (hb : B ≤ b) : Below B w (w'.setCell ⟨b, i, none⟩ v) := Below.setCell h hb v
theorem al_other {w : World} {g n i : Nat} {u : Value} (h : g ≠ n) : (w.setCell ⟨n, i, none⟩ u).heap[g]? = w.heap[g]? := by
  simp [World.setCell, Array.getElem?_modify, Ne.symm h]
/-- Of the blocks that were there, block g alone may have turned. -/
def al_Only (g : Nat) (w w' : World) : Prop := Below g w w' ∧ ∀ b, b ≠ g → b < w.heap.size → w'.heap[b]? = w.heap[b]?
theorem al_Only.set {g i : Nat} {w w' : World} {v : Value} (h : al_Only g w w') : al_Only g w (w'.setCell ⟨g, i, none⟩ v) :=
  ⟨al_bset h.1 (Nat.le_refl _), fun b hb hl => (al_other hb).trans (h.2 b hb hl)⟩
theorem al_Only.of_below {g : Nat} {w w' : World} (h : Below w.heap.size w w') (hg : g ≤ w.heap.size) : al_Only g w w' := ⟨h.mono hg, fun b _ hl => h.block b hl⟩
theorem al_Only.trans {g : Nat} {w w1 w2 : World} (h : al_Only g w w1) (k : al_Only g w1 w2) : al_Only g w w2 :=
  ⟨h.1.trans k.1, fun b hb hl => (k.2 b hb (Nat.lt_of_lt_of_le hl h.1.size)).trans (h.2 b hb hl)⟩
set_option maxHeartbeats 1000000 in
set_option maxRecDepth 100000 in
theorem al_next (g : Nat) (w : World) (hg : w.heap[g]? = some (.cells #[.string ⟨#[]⟩, .int .i64 0, .string ⟨#[]⟩, .string ⟨#[]⟩, .int .i64 0, .int .i64 0, .int .i64 0] 43 (0, 0))) :
    Calls Tryd.prog 7 #[.pointer (some ⟨g, 0, none⟩)] w fun e w' => e = .returned (.tuple #[]) ∧
      w'.heap[g]? = some (.cells #[.string ⟨#[]⟩, .int .i64 0, .string ⟨#[]⟩, .string ⟨#[]⟩, .int .i64 0, .int .i64 0, .int .i64 0] 43 (0, 0)) ∧ al_Only g w w' := by
  have c0 : w.cell? ⟨g, 0, none⟩ = some (.string ⟨#[]⟩) := by simp [World.cell?, hg]
  have c1 : w.cell? ⟨g, 1, none⟩ = some (.int .i64 0) := by simp [World.cell?, hg]
  have c2 : w.cell? ⟨g, 2, none⟩ = some (.string ⟨#[]⟩) := by simp [World.cell?, hg]
  have c3 : w.cell? ⟨g, 3, none⟩ = some (.string ⟨#[]⟩) := by simp [World.cell?, hg]
  have c4 : w.cell? ⟨g, 4, none⟩ = some (.int .i64 0) := by simp [World.cell?, hg]
  have f2 : w.frozen? ⟨g, 2, none⟩ = false := by simp [World.frozen?, hg]
  have f3 : w.frozen? ⟨g, 3, none⟩ = false := by simp [World.frozen?, hg]
  have f4 : w.frozen? ⟨g, 4, none⟩ = false := by simp [World.frozen?, hg]
  have hlt := lt_of_block hg
  have hg' := Lib.hid hg
  clear hg
  go_enter Tryd.func7, Tryd.ntmps7
  go_wp2_with fail
  go_loop [6] (fun v => True) (fun _ => 0)
  case atStart => trivial
  case round =>
    clear hrel
    go_wp2_with fail
    go_quiet (fail)
    go_wp2_with fail
    refine bodyPost_ret (results_none rfl _ _ _) rfl ⟨rfl, ?_, ?_⟩
    · have h := al_heap_set (i := 4) (u := .int .i64 0) (al_heap_set (i := 3) (u := .string ⟨#[]⟩) (al_heap_set (i := 2) (u := .string ⟨#[]⟩) (w := w.drewN nq) hg'.out))
      exact h
    · exact (((al_Only.of_below (pw_below_drewN (Below.refl _ _) nq) (Nat.le_of_lt hlt)).set).set).set
set_option maxHeartbeats 1000000 in
set_option maxRecDepth 100000 in
theorem al_fail (g : Nat) (w : World) (hg : w.heap[g]? = some (.cells #[.string ⟨#[]⟩, .int .i64 0, .string ⟨#[]⟩, .string ⟨#[]⟩, .int .i64 0, .int .i64 0, .int .i64 0] 43 (0, 0))) :
    Calls Tryd.prog 9 #[.pointer (some ⟨g, 0, none⟩), .int .i64 0, .int .i64 8] w fun e w' => e = .returned (.tuple #[]) ∧
      w'.heap[g]? = some (.cells #[.string ⟨#[]⟩, .int .i64 0, .string ⟨#[]⟩, .string ⟨#[]⟩, .int .i64 0, .int .i64 0, .int .i64 8] 43 (0, 0)) ∧ al_Only g w w' := by
  have c5 : w.cell? ⟨g, 5, none⟩ = some (.int .i64 0) := by simp [World.cell?, hg]
  have c6 : w.cell? ⟨g, 6, none⟩ = some (.int .i64 0) := by simp [World.cell?, hg]
  have f5 : w.frozen? ⟨g, 5, none⟩ = false := by simp [World.frozen?, hg]
  have f6 : w.frozen? ⟨g, 6, none⟩ = false := by simp [World.frozen?, hg]
  have hlt := lt_of_block hg
  have hg' := Lib.hid hg
  clear hg
  go_enter Tryd.func9, Tryd.ntmps9
  go_wp2_with fail
  refine bodyPost_end (results_none rfl _ _ _) rfl ?_
  exact ⟨rfl, al_heap_set (i := 6) (u := .int .i64 8) (al_heap_set (i := 5) (u := .int .i64 0) hg'.out), ((al_Only.of_below (Below.refl _ _) (Nat.le_of_lt hlt)).set).set⟩
theorem al_Only.setNew {g n i : Nat} {w w' : World} {v : Value} (h : al_Only g w w') (hn : w.heap.size ≤ n) (hg : g ≤ n) : al_Only g w (w'.setCell ⟨n, i, none⟩ v) :=
  ⟨al_bset h.1 hg, fun b hb hl => (al_other (by omega)).trans (h.2 b hb hl)⟩
def al_nine (w : World) (n : Nat) : World := (((((((((w.setCell ⟨n, 0, none⟩ (.int .i64 0)).setCell ⟨n, 1, none⟩ (.string ⟨#[]⟩)).setCell ⟨n, 2, none⟩ (.int .i64 0)).setCell ⟨n, 3, none⟩ (.bool false)).setCell ⟨n, 4, none⟩ (.int .i64 0)).setCell ⟨n, 5, none⟩ (.string ⟨#[]⟩)).setCell ⟨n, 6, none⟩ (.slice none 0 0)).setCell ⟨n, 7, none⟩ (.slice none 0 0)).setCell ⟨n, 8, none⟩ (.slice none 0 0))
set_option maxHeartbeats 1000000 in
theorem al_nine_facts {g n : Nat} {w w1 : World} {x : Obj} (hA : w1.heap[n]? = some (.cells #[.int .i64 0, .string ⟨#[]⟩, .int .i64 0, .bool false, .int .i64 0, .string ⟨#[]⟩, .slice none 0 0, .slice none 0 0, .slice none 0 0] 36 (0, 0))) (hg1 : w1.heap[g]? = some x) (hb : al_Only g w w1) (hn : w.heap.size ≤ n) (hg : g < n) :
    (al_nine w1 n).heap[n]? = some (.cells #[.int .i64 0, .string ⟨#[]⟩, .int .i64 0, .bool false, .int .i64 0, .string ⟨#[]⟩, .slice none 0 0, .slice none 0 0, .slice none 0 0] 36 (0, 0)) ∧ (al_nine w1 n).heap[g]? = some x ∧ al_Only g w (al_nine w1 n) := by
  have hne : g ≠ n := Nat.ne_of_lt hg
  have hle : g ≤ n := Nat.le_of_lt hg
  refine ⟨?_, ?_, ?_⟩
  · unfold al_nine
    rw [al_heap_set (al_heap_set (al_heap_set (al_heap_set (al_heap_set (al_heap_set (al_heap_set (al_heap_set (al_heap_set hA))))))))]; simp
  · unfold al_nine
    rw [al_other hne, al_other hne, al_other hne, al_other hne, al_other hne, al_other hne, al_other hne, al_other hne, al_other hne]
    exact hg1
  · unfold al_nine
    exact (al_Only.setNew (al_Only.setNew (al_Only.setNew (al_Only.setNew (al_Only.setNew (al_Only.setNew (al_Only.setNew (al_Only.setNew (al_Only.setNew hb hn hle) hn hle) hn hle) hn hle) hn hle) hn hle) hn hle) hn hle) hn hle)
theorem al_res28 {W : World} {n : Nat} {tmps : Array Value} (h2 : tmps.getD 2 undef = .pointer (some ⟨n, 0, none⟩)) (hA : W.heap[n]? = some (.cells #[.int .i64 0, .string ⟨#[]⟩, .int .i64 0, .bool false, .int .i64 0, .string ⟨#[]⟩, .slice none 0 0, .slice none 0 0, .slice none 0 0] 36 (0, 0))) :
    (results Tryd.f28 tmps).run Tryd.prog W = .ok (.agg #[.int .i64 0, .string ⟨#[]⟩, .int .i64 0, .bool false, .int .i64 0, .string ⟨#[]⟩, .slice none 0 0, .slice none 0 0, .slice none 0 0]) W := by
  have h2' : tmps[2]?.getD undef = .pointer (some ⟨n, 0, none⟩) := by simpa using h2
  have ra := run_loadVar_row (P := Tryd.prog) W n 36 36 _ (0, 0) _ hA Tryd.underlying36 rfl (by kernel_rfl)
  simp [results, Tryd.results28, h2', asAddr, ra, Result.andThen]
/-- The four cells and more of a condition that says nothing. -/
def al_cond0 : Array Value := #[.int .i64 0, .string ⟨#[]⟩, .int .i64 0, .bool false, .int .i64 0, .string ⟨#[]⟩, .slice none 0 0, .slice none 0 0, .slice none 0 0]
set_option maxHeartbeats 1000000 in
set_option maxRecDepth 100000 in
theorem al_single (g : Nat) (w : World) (hg : w.heap[g]? = some (.cells #[.string ⟨#[]⟩, .int .i64 0, .string ⟨#[]⟩, .string ⟨#[]⟩, .int .i64 0, .int .i64 0, .int .i64 0] 43 (0, 0))) :
    Calls Tryd.prog 28 #[.pointer (some ⟨g, 0, none⟩)] w fun e w' => e = .returned (.agg #[.int .i64 0, .string ⟨#[]⟩, .int .i64 0, .bool false, .int .i64 0, .string ⟨#[]⟩, .slice none 0 0, .slice none 0 0, .slice none 0 0]) ∧
      w'.heap[g]? = some (.cells #[.string ⟨#[]⟩, .int .i64 0, .string ⟨#[]⟩, .string ⟨#[]⟩, .int .i64 0, .int .i64 0, .int .i64 8] 43 (0, 0)) ∧ al_Only g w w' := by
  have c2 : w.cell? ⟨g, 2, none⟩ = some (.string ⟨#[]⟩) := by simp [World.cell?, hg]
  have c3 : w.cell? ⟨g, 3, none⟩ = some (.string ⟨#[]⟩) := by simp [World.cell?, hg]
  have c4 : w.cell? ⟨g, 4, none⟩ = some (.int .i64 0) := by simp [World.cell?, hg]
  have c6 : w.cell? ⟨g, 6, none⟩ = some (.int .i64 0) := by simp [World.cell?, hg]
  have hlt := lt_of_block hg
  have hg' := Lib.hid hg
  clear hg
  go_enter Tryd.func28, Tryd.ntmps28
  go_wp2_with fail
  have hgA : (w.alloc (.cells #[.int .i64 0, .string ⟨#[]⟩, .int .i64 0, .bool false, .int .i64 0, .string ⟨#[]⟩, .slice none 0 0, .slice none 0 0, .slice none 0 0] 36 (0, 0))).heap[g]? = some (.cells #[.string ⟨#[]⟩, .int .i64 0, .string ⟨#[]⟩, .string ⟨#[]⟩, .int .i64 0, .int .i64 0, .int .i64 0] 43 (0, 0)) := (Below.heap_alloc _ _ _ hlt).trans hg'.out
  refine (al_fail g _ hgA).mono ?_
  rintro e w1 ⟨rfl, hg1, hb1⟩
  have hA : w1.heap[w.heap.size]? = some (.cells #[.int .i64 0, .string ⟨#[]⟩, .int .i64 0, .bool false, .int .i64 0, .string ⟨#[]⟩, .slice none 0 0, .slice none 0 0, .slice none 0 0] 36 (0, 0)) := (hb1.2 _ (by omega) (by simp)).trans (heap_alloc_new w _)
  have hb : al_Only g w w1 := (al_Only.of_below (below_alloc (Below.refl _ _) _) (Nat.le_of_lt hlt)).trans hb1
  have d0 : w1.cell? ⟨w.heap.size, 0, none⟩ = some (.int .i64 0) := by simp [World.cell?, hA]
  have d1 : w1.cell? ⟨w.heap.size, 1, none⟩ = some (.string ⟨#[]⟩) := by simp [World.cell?, hA]
  have d2 : w1.cell? ⟨w.heap.size, 2, none⟩ = some (.int .i64 0) := by simp [World.cell?, hA]
  have d3 : w1.cell? ⟨w.heap.size, 3, none⟩ = some (.bool false) := by simp [World.cell?, hA]
  have d4 : w1.cell? ⟨w.heap.size, 4, none⟩ = some (.int .i64 0) := by simp [World.cell?, hA]
  have d5 : w1.cell? ⟨w.heap.size, 5, none⟩ = some (.string ⟨#[]⟩) := by simp [World.cell?, hA]
  have d6 : w1.cell? ⟨w.heap.size, 6, none⟩ = some (.slice none 0 0) := by simp [World.cell?, hA]
  have d7 : w1.cell? ⟨w.heap.size, 7, none⟩ = some (.slice none 0 0) := by simp [World.cell?, hA]
  have d8 : w1.cell? ⟨w.heap.size, 8, none⟩ = some (.slice none 0 0) := by simp [World.cell?, hA]
  have f0 : w1.frozen? ⟨w.heap.size, 0, none⟩ = false := by simp [World.frozen?, hA]
  have f1 : w1.frozen? ⟨w.heap.size, 1, none⟩ = false := by simp [World.frozen?, hA]
  have f2 : w1.frozen? ⟨w.heap.size, 2, none⟩ = false := by simp [World.frozen?, hA]
  have f3 : w1.frozen? ⟨w.heap.size, 3, none⟩ = false := by simp [World.frozen?, hA]
  have f4 : w1.frozen? ⟨w.heap.size, 4, none⟩ = false := by simp [World.frozen?, hA]
  have f5 : w1.frozen? ⟨w.heap.size, 5, none⟩ = false := by simp [World.frozen?, hA]
  have f6 : w1.frozen? ⟨w.heap.size, 6, none⟩ = false := by simp [World.frozen?, hA]
  have f7 : w1.frozen? ⟨w.heap.size, 7, none⟩ = false := by simp [World.frozen?, hA]
  have f8 : w1.frozen? ⟨w.heap.size, 8, none⟩ = false := by simp [World.frozen?, hA]
  have hA' := Lib.hid hA
  have hg1' := Lib.hid hg1
  clear hA hg1 hb1 hgA hg' c2 c3 c4 c6
  go_wp2_with fail
  obtain ⟨q1, q2, q3⟩ := al_nine_facts (n := w.heap.size) hA'.out hg1'.out hb (Nat.le_refl _) hlt
  refine bodyPost_ret (v := .agg #[.int .i64 0, .string ⟨#[]⟩, .int .i64 0, .bool false, .int .i64 0, .string ⟨#[]⟩, .slice none 0 0, .slice none 0 0, .slice none 0 0]) ?_ rfl ⟨rfl, q2, q3⟩
  exact al_res28 rfl q1
theorem al_res17 {W : World} {n : Nat} {tmps : Array Value} (h2 : tmps.getD 4 undef = .pointer (some ⟨n, 0, none⟩)) (hA : W.heap[n]? = some (.cells #[.int .i64 0, .string ⟨#[]⟩, .int .i64 0, .bool false, .int .i64 0, .string ⟨#[]⟩, .slice none 0 0, .slice none 0 0, .slice none 0 0] 36 (0, 0))) :
    (results Tryd.f17 tmps).run Tryd.prog W = .ok (.agg #[.int .i64 0, .string ⟨#[]⟩, .int .i64 0, .bool false, .int .i64 0, .string ⟨#[]⟩, .slice none 0 0, .slice none 0 0, .slice none 0 0]) W := by
  have h2' : tmps[4]?.getD undef = .pointer (some ⟨n, 0, none⟩) := by simpa using h2
  have ra := run_loadVar_row (P := Tryd.prog) W n 36 36 _ (0, 0) _ hA Tryd.underlying36 rfl (by kernel_rfl)
  simp [results, Tryd.results17, h2', asAddr, ra, Result.andThen]
theorem al_res15 {W : World} {n : Nat} {tmps : Array Value} (h2 : tmps.getD 2 undef = .pointer (some ⟨n, 0, none⟩)) (hA : W.heap[n]? = some (.cells #[.int .i64 0, .string ⟨#[]⟩, .int .i64 0, .bool false, .int .i64 0, .string ⟨#[]⟩, .slice none 0 0, .slice none 0 0, .slice none 0 0] 36 (0, 0))) :
    (results Tryd.f15 tmps).run Tryd.prog W = .ok (.agg #[.int .i64 0, .string ⟨#[]⟩, .int .i64 0, .bool false, .int .i64 0, .string ⟨#[]⟩, .slice none 0 0, .slice none 0 0, .slice none 0 0]) W := by
  have h2' : tmps[2]?.getD undef = .pointer (some ⟨n, 0, none⟩) := by simpa using h2
  have ra := run_loadVar_row (P := Tryd.prog) W n 36 36 _ (0, 0) _ hA Tryd.underlying36 rfl (by kernel_rfl)
  simp [results, Tryd.results15, h2', asAddr, ra, Result.andThen]
theorem al_res8 {W : World} {n : Nat} {tmps : Array Value} (h2 : tmps.getD 2 undef = .pointer (some ⟨n, 0, none⟩)) (hA : W.heap[n]? = some (.cells #[.int .i64 0, .string ⟨#[]⟩, .int .i64 0, .bool false, .int .i64 0, .string ⟨#[]⟩, .slice none 0 0, .slice none 0 0, .slice none 0 0] 36 (0, 0))) :
    (results Tryd.f8 tmps).run Tryd.prog W = .ok (.agg #[.int .i64 0, .string ⟨#[]⟩, .int .i64 0, .bool false, .int .i64 0, .string ⟨#[]⟩, .slice none 0 0, .slice none 0 0, .slice none 0 0]) W := by
  have h2' : tmps[2]?.getD undef = .pointer (some ⟨n, 0, none⟩) := by simpa using h2
  have ra := run_loadVar_row (P := Tryd.prog) W n 36 36 _ (0, 0) _ hA Tryd.underlying36 rfl (by kernel_rfl)
  simp [results, Tryd.results8, h2', asAddr, ra, Result.andThen]
set_option maxHeartbeats 1000000 in
theorem al_facts9 {n : Nat} {w1 : World} (hA : w1.heap[n]? = some (.cells #[.int .i64 0, .string ⟨#[]⟩, .int .i64 0, .bool false, .int .i64 0, .string ⟨#[]⟩, .slice none 0 0, .slice none 0 0, .slice none 0 0] 36 (0, 0))) : w1.cell? ⟨n, 0, none⟩ = some (.int .i64 0) ∧ w1.cell? ⟨n, 1, none⟩ = some (.string ⟨#[]⟩) ∧ w1.cell? ⟨n, 2, none⟩ = some (.int .i64 0) ∧ w1.cell? ⟨n, 3, none⟩ = some (.bool false) ∧ w1.cell? ⟨n, 4, none⟩ = some (.int .i64 0) ∧ w1.cell? ⟨n, 5, none⟩ = some (.string ⟨#[]⟩) ∧ w1.cell? ⟨n, 6, none⟩ = some (.slice none 0 0) ∧ w1.cell? ⟨n, 7, none⟩ = some (.slice none 0 0) ∧ w1.cell? ⟨n, 8, none⟩ = some (.slice none 0 0) ∧ w1.frozen? ⟨n, 0, none⟩ = false ∧ w1.frozen? ⟨n, 1, none⟩ = false ∧ w1.frozen? ⟨n, 2, none⟩ = false ∧ w1.frozen? ⟨n, 3, none⟩ = false ∧ w1.frozen? ⟨n, 4, none⟩ = false ∧ w1.frozen? ⟨n, 5, none⟩ = false ∧ w1.frozen? ⟨n, 6, none⟩ = false ∧ w1.frozen? ⟨n, 7, none⟩ = false ∧ w1.frozen? ⟨n, 8, none⟩ = false := by
  refine ⟨by simp [World.cell?, hA], by simp [World.cell?, hA], by simp [World.cell?, hA], by simp [World.cell?, hA], by simp [World.cell?, hA], by simp [World.cell?, hA], by simp [World.cell?, hA], by simp [World.cell?, hA], by simp [World.cell?, hA], by simp [World.frozen?, hA], by simp [World.frozen?, hA], by simp [World.frozen?, hA], by simp [World.frozen?, hA], by simp [World.frozen?, hA], by simp [World.frozen?, hA], by simp [World.frozen?, hA], by simp [World.frozen?, hA], by simp [World.frozen?, hA]⟩
theorem al_res25 {W : World} {n : Nat} {tmps : Array Value} (h2 : tmps.getD 2 undef = .pointer (some ⟨n, 0, none⟩)) (hA : W.heap[n]? = some (.cells #[.int .i64 0, .string ⟨#[]⟩, .int .i64 0, .bool false, .int .i64 0, .string ⟨#[]⟩, .slice none 0 0, .slice none 0 0, .slice none 0 0] 36 (0, 0))) :
    (results Tryd.f25 tmps).run Tryd.prog W = .ok (.agg #[.int .i64 0, .string ⟨#[]⟩, .int .i64 0, .bool false, .int .i64 0, .string ⟨#[]⟩, .slice none 0 0, .slice none 0 0, .slice none 0 0]) W := by
  have h2' : tmps[2]?.getD undef = .pointer (some ⟨n, 0, none⟩) := by simpa using h2
  have ra := run_loadVar_row (P := Tryd.prog) W n 36 36 _ (0, 0) _ hA Tryd.underlying36 rfl (by kernel_rfl)
  simp [results, Tryd.results25, h2', asAddr, ra, Result.andThen]
set_option maxHeartbeats 1000000 in
theorem al_alloc_facts {g : Nat} {w w1 : World} (hlt : g < w.heap.size) (hb1 : al_Only g (w.alloc (.cells #[.int .i64 0, .string ⟨#[]⟩, .int .i64 0, .bool false, .int .i64 0, .string ⟨#[]⟩, .slice none 0 0, .slice none 0 0, .slice none 0 0] 36 (0, 0))) w1) :
    Hid (w1.heap[w.heap.size]? = some (.cells #[.int .i64 0, .string ⟨#[]⟩, .int .i64 0, .bool false, .int .i64 0, .string ⟨#[]⟩, .slice none 0 0, .slice none 0 0, .slice none 0 0] 36 (0, 0))) ∧ Hid (al_Only g w w1) ∧ w1.cell? ⟨w.heap.size, 0, none⟩ = some (.int .i64 0) ∧ w1.cell? ⟨w.heap.size, 1, none⟩ = some (.string ⟨#[]⟩) ∧ w1.cell? ⟨w.heap.size, 2, none⟩ = some (.int .i64 0) ∧ w1.cell? ⟨w.heap.size, 3, none⟩ = some (.bool false) ∧ w1.cell? ⟨w.heap.size, 4, none⟩ = some (.int .i64 0) ∧ w1.cell? ⟨w.heap.size, 5, none⟩ = some (.string ⟨#[]⟩) ∧ w1.cell? ⟨w.heap.size, 6, none⟩ = some (.slice none 0 0) ∧ w1.cell? ⟨w.heap.size, 7, none⟩ = some (.slice none 0 0) ∧ w1.cell? ⟨w.heap.size, 8, none⟩ = some (.slice none 0 0) ∧ w1.frozen? ⟨w.heap.size, 0, none⟩ = false ∧ w1.frozen? ⟨w.heap.size, 1, none⟩ = false ∧ w1.frozen? ⟨w.heap.size, 2, none⟩ = false ∧ w1.frozen? ⟨w.heap.size, 3, none⟩ = false ∧ w1.frozen? ⟨w.heap.size, 4, none⟩ = false ∧ w1.frozen? ⟨w.heap.size, 5, none⟩ = false ∧ w1.frozen? ⟨w.heap.size, 6, none⟩ = false ∧ w1.frozen? ⟨w.heap.size, 7, none⟩ = false ∧ w1.frozen? ⟨w.heap.size, 8, none⟩ = false := by
  have hA : w1.heap[w.heap.size]? = some (.cells #[.int .i64 0, .string ⟨#[]⟩, .int .i64 0, .bool false, .int .i64 0, .string ⟨#[]⟩, .slice none 0 0, .slice none 0 0, .slice none 0 0] 36 (0, 0)) := (hb1.2 _ (by omega) (by simp)).trans (heap_alloc_new w _)
  refine ⟨hA, (al_Only.of_below (below_alloc (Below.refl _ _) _) (Nat.le_of_lt hlt)).trans hb1, by simp [World.cell?, hA], by simp [World.cell?, hA], by simp [World.cell?, hA], by simp [World.cell?, hA], by simp [World.cell?, hA], by simp [World.cell?, hA], by simp [World.cell?, hA], by simp [World.cell?, hA], by simp [World.cell?, hA], by simp [World.frozen?, hA], by simp [World.frozen?, hA], by simp [World.frozen?, hA], by simp [World.frozen?, hA], by simp [World.frozen?, hA], by simp [World.frozen?, hA], by simp [World.frozen?, hA], by simp [World.frozen?, hA], by simp [World.frozen?, hA]⟩
set_option maxHeartbeats 1000000 in
set_option maxRecDepth 100000 in
theorem al_not (g : Nat) (w : World) (hg : w.heap[g]? = some (.cells #[.string ⟨#[]⟩, .int .i64 0, .string ⟨#[]⟩, .string ⟨#[]⟩, .int .i64 0, .int .i64 0, .int .i64 0] 43 (0, 0))) :
    Calls Tryd.prog 25 #[.pointer (some ⟨g, 0, none⟩)] w fun e w' => e = .returned (.agg #[.int .i64 0, .string ⟨#[]⟩, .int .i64 0, .bool false, .int .i64 0, .string ⟨#[]⟩, .slice none 0 0, .slice none 0 0, .slice none 0 0]) ∧
      w'.heap[g]? = some (.cells #[.string ⟨#[]⟩, .int .i64 0, .string ⟨#[]⟩, .string ⟨#[]⟩, .int .i64 0, .int .i64 0, .int .i64 8] 43 (0, 0)) ∧ al_Only g w w' := by
  have c2 : w.cell? ⟨g, 2, none⟩ = some (.string ⟨#[]⟩) := by simp [World.cell?, hg]
  have c3 : w.cell? ⟨g, 3, none⟩ = some (.string ⟨#[]⟩) := by simp [World.cell?, hg]
  have c6 : w.cell? ⟨g, 6, none⟩ = some (.int .i64 0) := by simp [World.cell?, hg]
  have hlt := lt_of_block hg
  have hg' := Lib.hid hg
  clear hg
  go_enter Tryd.func25, Tryd.ntmps25
  go_wp2_with (first | (go_at_call 28; go_must (refine (al_single g _ ((Below.heap_alloc _ _ _ hlt).trans hg'.out)).mono ?_); rintro e w1 ⟨rfl, hg1, hb1⟩; obtain ⟨hA, hb, d0, d1, d2, d3, d4, d5, d6, d7, d8, f0, f1, f2, f3, f4, f5, f6, f7, f8⟩ := al_alloc_facts hlt hb1; have hg1' := Lib.hid hg1; clear hg1 hb1 c2 c3 c6) | go_in)
  obtain ⟨q1, q2, q3⟩ := al_nine_facts (n := w.heap.size) hA.out hg1'.out hb.out (Nat.le_refl _) hlt
  refine bodyPost_ret (v := .agg #[.int .i64 0, .string ⟨#[]⟩, .int .i64 0, .bool false, .int .i64 0, .string ⟨#[]⟩, .slice none 0 0, .slice none 0 0, .slice none 0 0]) ?_ rfl ⟨rfl, q2, q3⟩
  exact al_res25 rfl q1
set_option maxHeartbeats 1000000 in
set_option maxRecDepth 100000 in
theorem al_joined (op : Int) (m : Nat) (w : World) (hm : w.heap[m]? = some (.cells #[.int .i64 0, .string ⟨#[]⟩, .int .i64 0, .bool false, .int .i64 0, .string ⟨#[]⟩, .slice none 0 0, .slice none 0 0, .slice none 0 0] 36 (0, 0))) :
    Calls Tryd.prog 17 #[.int .i64 op, .slice (some ⟨m, 0, none⟩) 1 1] w fun e w' => e = .returned (.agg #[.int .i64 0, .string ⟨#[]⟩, .int .i64 0, .bool false, .int .i64 0, .string ⟨#[]⟩, .slice none 0 0, .slice none 0 0, .slice none 0 0]) ∧ Below w.heap.size w w' := by
  have d0 : w.cell? ⟨m, 0, none⟩ = some (.int .i64 0) := by simp [World.cell?, hm]
  have d1 : w.cell? ⟨m, 1, none⟩ = some (.string ⟨#[]⟩) := by simp [World.cell?, hm]
  have d2 : w.cell? ⟨m, 2, none⟩ = some (.int .i64 0) := by simp [World.cell?, hm]
  have d3 : w.cell? ⟨m, 3, none⟩ = some (.bool false) := by simp [World.cell?, hm]
  have d4 : w.cell? ⟨m, 4, none⟩ = some (.int .i64 0) := by simp [World.cell?, hm]
  have d5 : w.cell? ⟨m, 5, none⟩ = some (.string ⟨#[]⟩) := by simp [World.cell?, hm]
  have d6 : w.cell? ⟨m, 6, none⟩ = some (.slice none 0 0) := by simp [World.cell?, hm]
  have d7 : w.cell? ⟨m, 7, none⟩ = some (.slice none 0 0) := by simp [World.cell?, hm]
  have d8 : w.cell? ⟨m, 8, none⟩ = some (.slice none 0 0) := by simp [World.cell?, hm]
  have hlt := lt_of_block hm
  have hm' := Lib.hid hm
  clear hm
  go_enter Tryd.func17, Tryd.ntmps17
  go_wp2_with fail
  refine bodyPost_ret (v := .agg #[.int .i64 0, .string ⟨#[]⟩, .int .i64 0, .bool false, .int .i64 0, .string ⟨#[]⟩, .slice none 0 0, .slice none 0 0, .slice none 0 0]) ?_ rfl ⟨rfl, below_alloc (Below.refl _ _) _⟩
  exact al_res17 rfl (heap_alloc_new w _)
set_option maxHeartbeats 1000000 in
set_option maxRecDepth 100000 in
theorem al_and (g : Nat) (w : World) (hg : w.heap[g]? = some (.cells #[.string ⟨#[]⟩, .int .i64 0, .string ⟨#[]⟩, .string ⟨#[]⟩, .int .i64 0, .int .i64 0, .int .i64 0] 43 (0, 0))) :
    Calls Tryd.prog 15 #[.pointer (some ⟨g, 0, none⟩)] w fun e w' => e = .returned (.agg #[.int .i64 0, .string ⟨#[]⟩, .int .i64 0, .bool false, .int .i64 0, .string ⟨#[]⟩, .slice none 0 0, .slice none 0 0, .slice none 0 0]) ∧
      w'.heap[g]? = some (.cells #[.string ⟨#[]⟩, .int .i64 0, .string ⟨#[]⟩, .string ⟨#[]⟩, .int .i64 0, .int .i64 0, .int .i64 8] 43 (0, 0)) ∧ al_Only g w w' := by
  have hlt := lt_of_block hg
  have hg' := Lib.hid hg
  clear hg
  go_enter Tryd.func15, Tryd.ntmps15
  go_wp2_with fail
  refine (al_not g _ ((Below.heap_alloc _ _ _ hlt).trans hg'.out)).mono ?_
  rintro e w1 ⟨rfl, hg1, hb1⟩
  obtain ⟨hA, hb, d0, d1, d2, d3, d4, d5, d6, d7, d8, f0, f1, f2, f3, f4, f5, f6, f7, f8⟩ := al_alloc_facts hlt hb1
  have c6 : w1.cell? ⟨g, 6, none⟩ = some (.int .i64 8) := by simp [World.cell?, hg1]
  have hlt1 : g < w1.heap.size := lt_of_block hg1
  have hlt2 : w.heap.size < w1.heap.size := lt_of_block hA.out
  have hg1' := Lib.hid hg1
  clear hg1 hb1
  go_wp2_with fail
  go_loop [3] (fun v => v = .slice (some ⟨w1.heap.size, 0, none⟩) 1 1) (fun _ => 0)
  case atStart => rfl
  case round =>
    subst hrel
    go_wp2_with fail
    refine (al_joined 1 w1.heap.size _ (heap_alloc_new w1 _)).mono ?_
    rintro e w2 ⟨rfl, hb2⟩
    have hA2 : w2.heap[w.heap.size]? = some (.cells #[.int .i64 0, .string ⟨#[]⟩, .int .i64 0, .bool false, .int .i64 0, .string ⟨#[]⟩, .slice none 0 0, .slice none 0 0, .slice none 0 0] 36 (0, 0)) := (hb2.block _ (by simp; omega)).trans ((Below.heap_alloc _ _ _ hlt2).trans hA.out)
    have hg2 := (hb2.block g (by simp; omega)).trans ((Below.heap_alloc _ _ _ hlt1).trans hg1'.out)
    have hO2 : al_Only g w w2 := hb.out.trans ((al_Only.of_below (below_alloc (Below.refl _ _) _) (Nat.le_of_lt hlt1)).trans (al_Only.of_below hb2 (by simp; omega)))
    clear d0 d1 d2 d3 d4 d5 d6 d7 d8 f0 f1 f2 f3 f4 f5 f6 f7 f8 hb2
    obtain ⟨d0, d1, d2, d3, d4, d5, d6, d7, d8, f0, f1, f2, f3, f4, f5, f6, f7, f8⟩ := al_facts9 hA2
    have hA2' := Lib.hid hA2
    have hg2' := Lib.hid hg2
    have hO2' := Lib.hid hO2
    clear hA2 hg2 hO2 hA hb hg1'
    go_wp2_with fail
    obtain ⟨q1, q2, q3⟩ := al_nine_facts (n := w.heap.size) hA2'.out hg2'.out hO2'.out (Nat.le_refl _) hlt
    refine bodyPost_ret (v := .agg #[.int .i64 0, .string ⟨#[]⟩, .int .i64 0, .bool false, .int .i64 0, .string ⟨#[]⟩, .slice none 0 0, .slice none 0 0, .slice none 0 0]) ?_ rfl ⟨rfl, q2, q3⟩
    exact al_res15 rfl q1
set_option maxHeartbeats 1000000 in
set_option maxRecDepth 100000 in
theorem al_or (g : Nat) (w : World) (hg : w.heap[g]? = some (.cells #[.string ⟨#[]⟩, .int .i64 0, .string ⟨#[]⟩, .string ⟨#[]⟩, .int .i64 0, .int .i64 0, .int .i64 0] 43 (0, 0))) :
    Calls Tryd.prog 8 #[.pointer (some ⟨g, 0, none⟩)] w fun e w' => e = .returned (.agg #[.int .i64 0, .string ⟨#[]⟩, .int .i64 0, .bool false, .int .i64 0, .string ⟨#[]⟩, .slice none 0 0, .slice none 0 0, .slice none 0 0]) ∧
      w'.heap[g]? = some (.cells #[.string ⟨#[]⟩, .int .i64 0, .string ⟨#[]⟩, .string ⟨#[]⟩, .int .i64 0, .int .i64 0, .int .i64 8] 43 (0, 0)) ∧ al_Only g w w' := by
  have hlt := lt_of_block hg
  have hg' := Lib.hid hg
  clear hg
  go_enter Tryd.func8, Tryd.ntmps8
  go_wp2_with fail
  refine (al_and g _ ((Below.heap_alloc _ _ _ hlt).trans hg'.out)).mono ?_
  rintro e w1 ⟨rfl, hg1, hb1⟩
  obtain ⟨hA, hb, d0, d1, d2, d3, d4, d5, d6, d7, d8, f0, f1, f2, f3, f4, f5, f6, f7, f8⟩ := al_alloc_facts hlt hb1
  have c6 : w1.cell? ⟨g, 6, none⟩ = some (.int .i64 8) := by simp [World.cell?, hg1]
  have hlt1 : g < w1.heap.size := lt_of_block hg1
  have hlt2 : w.heap.size < w1.heap.size := lt_of_block hA.out
  have hg1' := Lib.hid hg1
  clear hg1 hb1
  go_wp2_with fail
  go_loop [3] (fun v => v = .slice (some ⟨w1.heap.size, 0, none⟩) 1 1) (fun _ => 0)
  case atStart => rfl
  case round =>
    subst hrel
    go_wp2_with fail
    refine (al_joined _ w1.heap.size _ (heap_alloc_new w1 _)).mono ?_
    rintro e w2 ⟨rfl, hb2⟩
    have hA2 : w2.heap[w.heap.size]? = some (.cells #[.int .i64 0, .string ⟨#[]⟩, .int .i64 0, .bool false, .int .i64 0, .string ⟨#[]⟩, .slice none 0 0, .slice none 0 0, .slice none 0 0] 36 (0, 0)) := (hb2.block _ (by simp; omega)).trans ((Below.heap_alloc _ _ _ hlt2).trans hA.out)
    have hg2 := (hb2.block g (by simp; omega)).trans ((Below.heap_alloc _ _ _ hlt1).trans hg1'.out)
    have hO2 : al_Only g w w2 := hb.out.trans ((al_Only.of_below (below_alloc (Below.refl _ _) _) (Nat.le_of_lt hlt1)).trans (al_Only.of_below hb2 (by simp; omega)))
    clear d0 d1 d2 d3 d4 d5 d6 d7 d8 f0 f1 f2 f3 f4 f5 f6 f7 f8 hb2
    obtain ⟨d0, d1, d2, d3, d4, d5, d6, d7, d8, f0, f1, f2, f3, f4, f5, f6, f7, f8⟩ := al_facts9 hA2
    have hA2' := Lib.hid hA2
    have hg2' := Lib.hid hg2
    have hO2' := Lib.hid hO2
    clear hA2 hg2 hO2 hA hb hg1'
    go_wp2_with fail
    obtain ⟨q1, q2, q3⟩ := al_nine_facts (n := w.heap.size) hA2'.out hg2'.out hO2'.out (Nat.le_refl _) hlt
    refine bodyPost_ret (v := .agg #[.int .i64 0, .string ⟨#[]⟩, .int .i64 0, .bool false, .int .i64 0, .string ⟨#[]⟩, .slice none 0 0, .slice none 0 0, .slice none 0 0]) ?_ rfl ⟨rfl, q2, q3⟩
    exact al_res8 rfl q1
set_option maxHeartbeats 1000000 in
theorem al_nine_facts1 {n : Nat} {w w1 : World} (hA : w1.heap[n]? = some (.cells #[.int .i64 0, .string ⟨#[]⟩, .int .i64 0, .bool false, .int .i64 0, .string ⟨#[]⟩, .slice none 0 0, .slice none 0 0, .slice none 0 0] 36 (0, 0))) (hb : Below w.heap.size w w1) (hn : w.heap.size ≤ n) :
    (al_nine w1 n).heap[n]? = some (.cells #[.int .i64 0, .string ⟨#[]⟩, .int .i64 0, .bool false, .int .i64 0, .string ⟨#[]⟩, .slice none 0 0, .slice none 0 0, .slice none 0 0] 36 (0, 0)) ∧ Below w.heap.size w (al_nine w1 n) := by
  refine ⟨?_, ?_⟩
  · unfold al_nine
    rw [al_heap_set (al_heap_set (al_heap_set (al_heap_set (al_heap_set (al_heap_set (al_heap_set (al_heap_set (al_heap_set hA))))))))]; simp
  · unfold al_nine
    exact (al_bset (al_bset (al_bset (al_bset (al_bset (al_bset (al_bset (al_bset (al_bset hb hn) hn) hn) hn) hn) hn) hn) hn) hn)
theorem al_hd_drew {W : World} {n : Nat} {o : Option Obj} (h : W.heap[n]? = o) : W.drew.heap[n]? = o := h
theorem al_res6 {W : World} {n : Nat} {tmps : Array Value} (h2 : tmps.getD 2 undef = .pointer (some ⟨n, 0, none⟩)) (h3 : tmps.getD 3 undef = .int .i64 0) (h4 : tmps.getD 4 undef = .int .i64 8) (hA : W.heap[n]? = some (.cells #[.int .i64 0, .string ⟨#[]⟩, .int .i64 0, .bool false, .int .i64 0, .string ⟨#[]⟩, .slice none 0 0, .slice none 0 0, .slice none 0 0] 36 (0, 0))) :
    (results Tryd.f6 tmps).run Tryd.prog W = .ok (.tuple #[.agg #[.int .i64 0, .string ⟨#[]⟩, .int .i64 0, .bool false, .int .i64 0, .string ⟨#[]⟩, .slice none 0 0, .slice none 0 0, .slice none 0 0], .int .i64 0, .int .i64 8]) W := by
  have h2' : tmps[2]?.getD undef = .pointer (some ⟨n, 0, none⟩) := by simpa using h2
  have h3' : tmps[3]?.getD undef = .int .i64 0 := by simpa using h3
  have h4' : tmps[4]?.getD undef = .int .i64 8 := by simpa using h4
  have ra := run_loadVar_row (P := Tryd.prog) W n 36 36 _ (0, 0) _ hA Tryd.underlying36 rfl (by kernel_rfl)
  simp [results, Tryd.results6, h2', h3', h4', asAddr, ra, Result.andThen]
set_option maxHeartbeats 1000000 in
set_option maxRecDepth 100000 in
theorem al_read (w : World) :
    Calls Tryd.prog 6 #[.string ⟨#[]⟩] w fun e w' => e = .returned (.tuple #[.agg #[.int .i64 0, .string ⟨#[]⟩, .int .i64 0, .bool false, .int .i64 0, .string ⟨#[]⟩, .slice none 0 0, .slice none 0 0, .slice none 0 0], .int .i64 0, .int .i64 8]) ∧ Below w.heap.size w w' := by
  go_enter Tryd.func6, Tryd.ntmps6
  go_wp2_with fail
  have hg0 : ((w.alloc (.cells #[.int .i64 0, .string ⟨#[]⟩, .int .i64 0, .bool false, .int .i64 0, .string ⟨#[]⟩, .slice none 0 0, .slice none 0 0, .slice none 0 0] 36 (0, 0))).alloc (.cells #[.string ⟨#[]⟩, .int .i64 0, .string ⟨#[]⟩, .string ⟨#[]⟩, .int .i64 0, .int .i64 0, .int .i64 0] 43 (0, 0))).heap[w.heap.size + 1]? = some (.cells #[.string ⟨#[]⟩, .int .i64 0, .string ⟨#[]⟩, .string ⟨#[]⟩, .int .i64 0, .int .i64 0, .int .i64 0] 43 (0, 0)) := by
    simpa using heap_alloc_new (w.alloc (.cells #[.int .i64 0, .string ⟨#[]⟩, .int .i64 0, .bool false, .int .i64 0, .string ⟨#[]⟩, .slice none 0 0, .slice none 0 0, .slice none 0 0] 36 (0, 0))) (.cells #[.string ⟨#[]⟩, .int .i64 0, .string ⟨#[]⟩, .string ⟨#[]⟩, .int .i64 0, .int .i64 0, .int .i64 0] 43 (0, 0))
  refine (al_next (w.heap.size + 1) _ hg0).mono ?_
  rintro e w1 ⟨rfl, hg1, ho1⟩
  have hA1 : w1.heap[w.heap.size]? = some (.cells #[.int .i64 0, .string ⟨#[]⟩, .int .i64 0, .bool false, .int .i64 0, .string ⟨#[]⟩, .slice none 0 0, .slice none 0 0, .slice none 0 0] 36 (0, 0)) := (ho1.2 _ (by omega) (by simp; omega)).trans ((Below.heap_alloc _ _ _ (by simp)).trans (heap_alloc_new w _))
  have hb1 : Below w.heap.size w w1 := (below_alloc (below_alloc (Below.refl _ _) _) _).trans (ho1.1.mono (by omega))
  have hz1 : w.heap.size < w1.heap.size := lt_of_block hA1
  clear ho1 hg0
  have hA1' := Lib.hid hA1
  have hg1' := Lib.hid hg1
  have hb1' := Lib.hid hb1
  clear hA1 hg1 hb1
  go_wp2_with fail
  refine (al_or (w.heap.size + 1) _ hg1'.out).mono ?_
  rintro e w2 ⟨rfl, hg2, ho2⟩
  have hA2 := (ho2.2 _ (by omega) hz1).trans hA1'.out
  have hb2 : Below w.heap.size w w2 := hb1'.out.trans (ho2.1.mono (by omega))
  have c5 : w2.cell? ⟨w.heap.size + 1, 5, none⟩ = some (.int .i64 0) := by simp [World.cell?, hg2]
  have c6 : w2.cell? ⟨w.heap.size + 1, 6, none⟩ = some (.int .i64 8) := by simp [World.cell?, hg2]
  have hlt2 : w.heap.size + 1 < w2.heap.size := lt_of_block hg2
  obtain ⟨d0, d1, d2, d3, d4, d5, d6, d7, d8, f0, f1, f2, f3, f4, f5, f6, f7, f8⟩ := al_facts9 hA2
  have hA2' := Lib.hid hA2
  have hb2' := Lib.hid hb2
  clear hA2 hb2 ho2 hg2 hA1' hg1' hb1'
  go_wp2_with fail
  generalize hW : World.alloc w2 _ = w3
  have hA3 := ((congrArg (fun v : World => v.heap[w.heap.size]?) hW).symm.trans (Below.heap_alloc _ _ _ (by omega))).trans hA2'.out
  have hb3 : Below w.heap.size w w3 := by rw [← hW]; exact below_alloc hb2'.out _
  have e5 : w3.cell? ⟨w.heap.size + 1, 5, none⟩ = some (.int .i64 0) := by rw [← hW]; exact (World.cell?_alloc_lt _ _ _ (by show _ < w2.heap.size; omega)).trans c5
  have e6 : w3.cell? ⟨w.heap.size + 1, 6, none⟩ = some (.int .i64 8) := by rw [← hW]; exact (World.cell?_alloc_lt _ _ _ (by show _ < w2.heap.size; omega)).trans c6
  clear d0 d1 d2 d3 d4 d5 d6 d7 d8 f0 f1 f2 f3 f4 f5 f6 f7 f8 c5 c6 hW hA2' hb2'
  obtain ⟨d0, d1, d2, d3, d4, d5, d6, d7, d8, f0, f1, f2, f3, f4, f5, f6, f7, f8⟩ := al_facts9 hA3
  obtain ⟨q1, q2⟩ := al_nine_facts1 (w1 := w3) (n := w.heap.size) hA3 hb3 (Nat.le_refl _)
  unfold al_nine at q1 q2
  have q1' := Lib.hid q1
  have q2' := Lib.hid q2
  clear hA3 hb3 q1 q2
  go_region
  all_goals
    go_wp2
    try simp only [Act.put, List.getElem_toArray, List.getElem_cons_succ, List.getElem_cons_zero, List.setIfInBounds_toArray, List.set_cons_succ, List.set_cons_zero]
    refine bodyPost_ret (v := .tuple #[.agg #[.int .i64 0, .string ⟨#[]⟩, .int .i64 0, .bool false, .int .i64 0, .string ⟨#[]⟩, .slice none 0 0, .slice none 0 0, .slice none 0 0], .int .i64 0, .int .i64 8]) ?_ rfl ⟨rfl, below_drew1 q2'.out⟩
    exact al_res6 rfl rfl rfl (al_hd_drew q1'.out)
def mastkeep2_awakeList.f : Option Bool := some true
theorem mastkeep2_awakeList.calls (r : Bool) (w : World) (h : mastkeep2_awakeList.f = some r) :
    Calls Tryd.prog 4 #[] w fun e w' => e = .returned (.bool r) ∧ Below w.heap.size w w' := by
  obtain rfl := Option.some.inj h
  clear h
  go_enter Tryd.func4, Tryd.ntmps4
  go_wp2_with (go_at_call 6; refine (al_read _).mono ?_; rintro e w2 ⟨rfl, hb2⟩)
  go_ret
  exact ⟨rfl, below_alloc hb2 _⟩

/-! ### list_Pager: function 5 -/
mutual
def list_Pager.j0 : Nat → Int → Int → Bool → Option ((List (S28)) × Int)
  | 0, _, _, _ => none
  | k + 1, x0, x1, x21 => if x21 = true then (some (([] : List (S28)), 2)) else (list_Pager.l0 k x0 x1 ([] : List (S28)) 0)
def list_Pager.l0 : Nat → Int → Int → List (S28) → Int → Option ((List (S28)) × Int)
  | 0, _, _, _, _ => none
  | k + 1, x0, x1, x6, x7 => if x7 < x0 then (if x6.length < 5864062014805 then (list_Pager.l0 k x0 x1 (x6 ++ [(⟨wrap64 ((x6.length : Int) + 1), x7, mn (wrap64 (x7 + x1)) x0⟩ : S28)]) (wrap64 (x7 + x1))) else (none)) else (if x7 = 0 then (if (x6.length : Int) = 0 then (if x6.length < 5864062014805 then (list_Pager.l0 k x0 x1 (x6 ++ [(⟨wrap64 ((x6.length : Int) + 1), x7, mn (wrap64 (x7 + x1)) x0⟩ : S28)]) (wrap64 (x7 + x1))) else (none)) else (some (x6, 0))) else (some (x6, 0)))
end
def list_Pager.f (k : Nat) (a0 : Int) (a1 : Int) : Option ((List (S28)) × Int) := if a0 < 0 then (list_Pager.j0 k a0 a1 true) else (if a0 > 2000 then (list_Pager.j0 k a0 a1 true) else (if a1 < 1 then (list_Pager.j0 k a0 a1 true) else (list_Pager.j0 k a0 a1 (decide (a1 > 2000)))))
theorem list_Pager.mono_l : ∀ k, (∀ y0 y1 y2, LeO (list_Pager.j0 k y0 y1 y2) (list_Pager.j0 (k + 1) y0 y1 y2)) ∧ (∀ y0 y1 y2 y3, LeO (list_Pager.l0 k y0 y1 y2 y3) (list_Pager.l0 (k + 1) y0 y1 y2 y3))
  | 0 => ⟨fun _ _ _ r h => by simp [list_Pager.j0] at h, fun _ _ _ _ r h => by simp [list_Pager.l0] at h⟩
  | k + 1 => by
    obtain ⟨ih0, ih1⟩ := list_Pager.mono_l k
    refine ⟨?_, ?_⟩
    · intro y0 y1 y2
      unfold list_Pager.j0
      repeat' first
      | (with_reducible exact ih0 _ _ _)
      | (with_reducible exact ih1 _ _ _ _)
      | (with_reducible exact LeO.refl _)
      | (with_reducible exact LeO.none _)
      | (with_reducible refine LeO.ite ?_ ?_)
      | (with_reducible refine LeO.bind ?_ (fun _ => ?_))
      | exact ih0 _ _ _
      | exact ih1 _ _ _ _
      | exact LeO.none _
      | refine LeO.ite ?_ ?_
      | refine LeO.bind ?_ (fun _ => ?_)
    · intro y0 y1 y2 y3
      unfold list_Pager.l0
      repeat' first
      | (with_reducible exact ih0 _ _ _)
      | (with_reducible exact ih1 _ _ _ _)
      | (with_reducible exact LeO.refl _)
      | (with_reducible exact LeO.none _)
      | (with_reducible refine LeO.ite ?_ ?_)
      | (with_reducible refine LeO.bind ?_ (fun _ => ?_))
      | exact ih0 _ _ _
      | exact ih1 _ _ _ _
      | exact LeO.none _
      | refine LeO.ite ?_ ?_
      | refine LeO.bind ?_ (fun _ => ?_)
theorem list_Pager.mono : ∀ a0 a1 k, LeO (list_Pager.f k a0 a1) (list_Pager.f (k + 1) a0 a1) := by
  intro a0 a1 k
  obtain ⟨ih0, ih1⟩ := list_Pager.mono_l k
  unfold list_Pager.f
  repeat' first
      | (with_reducible exact ih0 _ _ _)
      | (with_reducible exact ih1 _ _ _ _)
      | (with_reducible exact LeO.refl _)
      | (with_reducible exact LeO.none _)
      | (with_reducible refine LeO.ite ?_ ?_)
      | (with_reducible refine LeO.bind ?_ (fun _ => ?_))
      | exact ih0 _ _ _
      | exact ih1 _ _ _ _
      | exact LeO.none _
      | refine LeO.ite ?_ ?_
      | refine LeO.bind ?_ (fun _ => ?_)
set_option maxHeartbeats 8000000 in
set_option maxRecDepth 100000 in
theorem list_Pager.calls (k : Nat) (a0 : Int) (a1 : Int) (r1 : List (S28)) (r2 : Int) (w : World) (h : list_Pager.f k a0 a1 = some (r1, r2)) :
    Calls Tryd.prog 5 #[.int .i64 a0, .int .i64 a1] w fun e w' => ∃ v0_ : Value, e = .returned (.tuple #[v0_, .int .i64 r2]) ∧ Kd.R k28 28 w' w.heap.size (fun _ => True) v0_ r1 ∧ Below w.heap.size w w' := by
  have hu28 := Tryd.underlying28
  have HB := Aside0.mk (Below.refl w.heap.size w)
  have H : (if a0 < 0 then (list_Pager.j0 k a0 a1 true) else (if a0 > 2000 then (list_Pager.j0 k a0 a1 true) else (if a1 < 1 then (list_Pager.j0 k a0 a1 true) else (list_Pager.j0 k a0 a1 (decide (a1 > 2000)))))) = some (r1, r2) := h
  clear h
  have HC3 := Aside0.mk H
  clear H
  go_enter Tryd.func5, Tryd.ntmps5
  go_upto_region 1 with (fail)
  go_cut [21] (fun v21 wc => ∃ (kq : Nat) (x21_2 : Bool), v21 = .bool x21_2 ∧ Aside0 (list_Pager.j0 kq a0 a1 x21_2 = some (r1, r2)) ∧ Aside0 (kq ≤ k) ∧ Aside0 (Below w.heap.size w wc))
  case first =>
    have H := HC3.out
    clear HC3
    by_cases c4 : a0 < 0
    · rw [if_pos c4] at H
      have c4b0 : decide (a0 < 0) = true := decide_eq_true c4
      clear c4
      (first | rw [c4b0] | (simp only [i64_w, i32_w]; rw [c4b0]) | skip)
      have H' := Aside0.mk H
      clear H
      go_wp2
      go_meet
      case rel => exact ⟨_, (true), (by first | rfl | (simp; done) | (simp [*]; done)), H', ⟨by first | omega | exact Nat.le_refl _⟩, ⟨by repeat (first | (with_reducible first | exact HB.out | apply below_alloc | apply pw_below_drewN | apply below_drew1) | exact HB.out)⟩⟩
    · rw [if_neg c4] at H
      have c4b0 : decide (a0 < 0) = false := decide_eq_false c4
      clear c4
      (first | rw [c4b0] | (simp only [i64_w, i32_w]; rw [c4b0]) | skip)
      by_cases c5 : a0 > 2000
      · rw [if_pos c5] at H
        have c5b0 : decide (2000 < a0) = true := decide_eq_true c5
        clear c5
        have H' := Aside0.mk H
        clear H
        go_wp2
        go_meet
        case rel => exact ⟨_, (true), (by first | rfl | (simp; done) | (simp [*]; done)), H', ⟨by first | omega | exact Nat.le_refl _⟩, ⟨by repeat (first | (with_reducible first | exact HB.out | apply below_alloc | apply pw_below_drewN | apply below_drew1) | exact HB.out)⟩⟩
      · rw [if_neg c5] at H
        have c5b0 : decide (2000 < a0) = false := decide_eq_false c5
        clear c5
        by_cases c6 : a1 < 1
        · rw [if_pos c6] at H
          have c6b0 : decide (a1 < 1) = true := decide_eq_true c6
          clear c6
          have H' := Aside0.mk H
          clear H
          go_wp2
          go_meet
          case rel => exact ⟨_, (true), (by first | rfl | (simp; done) | (simp [*]; done)), H', ⟨by first | omega | exact Nat.le_refl _⟩, ⟨by repeat (first | (with_reducible first | exact HB.out | apply below_alloc | apply pw_below_drewN | apply below_drew1) | exact HB.out)⟩⟩
        · rw [if_neg c6] at H
          have c6b0 : decide (a1 < 1) = false := decide_eq_false c6
          clear c6
          have H' := Aside0.mk H
          clear H
          go_wp2
          go_meet
          case rel => exact ⟨_, (decide (a1 > 2000)), (by first | rfl | (simp; done) | (simp [*]; done)), H', ⟨by first | omega | exact Nat.le_refl _⟩, ⟨by repeat (first | (with_reducible first | exact HB.out | apply below_alloc | apply pw_below_drewN | apply below_drew1) | exact HB.out)⟩⟩
  case rest =>
    clear HC3
    try clear p2
    try clear c4
    try clear c4b0
    try clear c5
    try clear c5b0
    try clear c6
    try clear c6b0
    obtain ⟨kq, x21_2, rfl, HA, HJ2, HB⟩ := hcut
    cases kq with
    | zero => exact absurd HA.out (by simp [list_Pager.j0])
    | succ kj2 =>
      have H := HA.out
      clear HA
      simp only [list_Pager.j0] at H
      by_cases c7 : x21_2 = true
      · subst c7
        have H1 : (some (([] : List (S28)), 2)) = some (r1, r2) := by rw [if_pos rfl] at H; exact H
        clear H
        have H := H1
        clear H1
        simp only [Option.some.injEq, Prod.mk.injEq] at H
        obtain ⟨rfl, rfl⟩ := H
        go_wp2
        go_ret2
        exact ⟨_, by first | rfl | (simp [errW_none, errW_some] <;> rfl) | (simp [*, errW_none, errW_some] <;> rfl), by first | exact Kd.R_nil _ _ _ _ _ | exact Kd.N_nil _ _ _ _ _ | exact Kd.V_nil _ _ _ _ _ | exact Kd.Q_nil _ _ _ _ _ | exact Kd.S_nil _ _ _ _ _, by repeat (first | (with_reducible first | exact HB.out | apply below_alloc | apply pw_below_drewN | apply below_drew1) | exact HB.out)⟩
      · replace c7 := Bool.eq_false_iff.mpr c7
        subst c7
        have H1 : (list_Pager.l0 kj2 a0 a1 ([] : List (S28)) 0) = some (r1, r2) := by rw [if_neg (show ¬ (false = true) by decide)] at H; exact H
        clear H
        have H := H1
        clear H1
        have H' := Aside0.mk H
        clear H
        go_wp2
        go_loopg [6, 7] kj2 (fun kq v6 v7 w' => ∃ (x6_2 : List (S28)) (x7_2 : Int), v7 = .int .i64 x7_2 ∧ Aside0 (list_Pager.l0 kq a0 a1 x6_2 x7_2 = some (r1, r2)) ∧ Aside0 (kq ≤ kj2) ∧ Aside0 (Kd.R k28 28 w' w.heap.size (fun _ => True) v6 x6_2) ∧ Aside0 (Below w.heap.size w w'))
        case atStart => exact ⟨(([] : List (S28))), (0), (by first | rfl | (simp; done) | (simp [*]; done)), H', ⟨Nat.le_refl _⟩, ⟨by first | exact Kd.R_nil _ _ _ _ _ | exact Kd.N_nil _ _ _ _ _ | exact Kd.V_nil _ _ _ _ _ | exact Kd.Q_nil _ _ _ _ _ | exact Kd.S_nil _ _ _ _ _⟩, ⟨by repeat (first | (with_reducible first | exact HB.out | apply below_alloc | apply pw_below_drewN | apply below_drew1) | exact HB.out)⟩⟩
        case round =>
          clear H'
          try clear p2
          try clear c4
          try clear c4b0
          try clear c5
          try clear c5b0
          try clear c6
          try clear c6b0
          try clear c7
          try clear p2
          obtain ⟨x6_2, x7_2, rfl, HA, HK2, HO_6, HB⟩ := hrel
          cases gk with
          | zero => exact absurd HA.out (by simp [list_Pager.l0])
          | succ k2 =>
            have H := HA.out
            clear HA
            simp only [list_Pager.l0] at H
            by_cases c8 : x7_2 < a0
            · rw [if_pos c8] at H
              have c8b0 : decide (x7_2 < a0) = true := decide_eq_true c8
              clear c8
              obtain ⟨ji9, hji9⟩ : ∃ j_ : Int, (mn (wrap64 (x7_2 + a1)) a0) = j_ := ⟨_, rfl⟩
              replace H : (if x6_2.length < 5864062014805 then (list_Pager.l0 k2 a0 a1 (x6_2 ++ [(⟨wrap64 ((x6_2.length : Int) + 1), x7_2, ji9⟩ : S28)]) (wrap64 (x7_2 + a1))) else (none)) = some (r1, r2) := by first | (rw [hji9] at H; exact H) | (simp only [hji9] at H ⊢; exact H)
              have hji9_ : (if a0 < (wrap64 (x7_2 + a1)) then a0 else (wrap64 (x7_2 + a1))) = ji9 := hji9
              by_cases c10 : x6_2.length < 5864062014805
              · rw [if_pos c10] at H
                have LMc10 := Aside0.mk c10
                clear c10
                obtain ⟨y101, hy101⟩ : ∃ y_ : List (S28), y_ = (x6_2 ++ [(⟨wrap64 ((x6_2.length : Int) + 1), x7_2, ji9⟩ : S28)]) := ⟨_, rfl⟩
                replace H : (list_Pager.l0 k2 a0 a1 y101 (wrap64 (x7_2 + a1))) = some (r1, r2) := by first | (rw [hy101]; with_reducible exact H) | (have H2_ := (Option.bind_some _ _).symm.trans H; rw [hy101]; with_reducible exact H2_) | (have H2_ := (Option.bind_some _ _).symm.trans H; with_reducible exact H2_) | with_reducible exact H | (rw [hy101]; exact H) | exact H
                have Ny101 := Aside0.mk hy101
                clear hy101
                have H' := Aside0.mk H
                clear H
                obtain ⟨Ao11, co11, eo11⟩ := Kd.R_slice HO_6.out
                subst eo11
                go_wp2_with (first | ((with_reducible refine gate_builtin (b := .append) (xs := #[.tmp 37, .tmp 48]) rfl ?_); (try (refine gate_guard (by rfl) ?_; dsimp only)); at_builtin; refine Kd.R_append k28 (w0 := w) w.heap.size rfl (.tmp 37) (.tmp 48) 23 28 (.agg #[(.int .i64 0), (.int .i64 0), (.int .i64 0)]) 24 rfl Tryd.underlying23 info28 rfl (by decide) (by omega) (.slice Ao11 x6_2.length co11) x6_2 (⟨wrap64 ((x6_2.length : Int) + 1), x7_2, ji9⟩ : S28) [.int .i64 (wrap64 ((x6_2.length : Int) + 1)), .int .i64 x7_2, .int .i64 ji9] (fun _ => True) (fun _ => False) rfl rfl ?aP (fun _ hk => hk.elim) ?aF ?aO ?aB ?aS ?aL ?_; (case aP => exact k28_mkM _ _ _ (⟨wrap64 ((x6_2.length : Int) + 1), x7_2, ji9⟩ : S28)); (case aB => exact (by repeat (first | (with_reducible first | exact HB.out | apply below_alloc | apply pw_below_drewN | apply below_drew1) | exact HB.out))); (case aF => exact (fun _ _ => trivial)); (case aO => exact (by (with_reducible repeat (first | apply Kd.R_alloc | apply Kd.R_drewN | apply Kd.R_drew)); exact HO_6.out)); (case aS => exact (below_size (by repeat (first | (with_reducible first | exact HB.out | apply below_alloc | apply pw_below_drewN | apply below_drew1) | exact HB.out)))); (case aL => have := LMc10.out; omega); intro v102 w12 ho hb hg hat; rw [← Ny101.out] at ho; have n0_ := Aside0.mk (hb); have n1_ := Aside0.mk (ho); clear HB; clear HO_6; have HB := n0_; have HO103 := n1_; clear n0_ n1_; clear ho hb hg hat))
                go_roundg k2
                case measure => have := HJ2.out; have := HK2.out; omega
                case rel => exact ⟨(y101), (wrap64 (x7_2 + a1)), (by first | rfl | (simp; done) | (simp [*]; done)), H', ⟨by have := HJ2.out; have := HK2.out; omega⟩, ⟨by (with_reducible repeat (first | apply Kd.R_alloc | apply Kd.R_drewN | apply Kd.R_drew)); exact HO103.out⟩, ⟨by repeat (first | (with_reducible first | exact HB.out | apply below_alloc | apply pw_below_drewN | apply below_drew1) | exact HB.out)⟩⟩
              · rw [if_neg c10] at H
                exact absurd H (by simp)
            · rw [if_neg c8] at H
              have c8b0 : decide (x7_2 < a0) = false := decide_eq_false c8
              clear c8
              by_cases c13 : x7_2 = 0
              · rw [if_pos c13] at H
                have c13b0 : (x7_2 == 0) = true := beq_iff_eq.mpr c13
                have c13b1 : (x7_2 != 0) = false := bne_eq_false_iff_eq.mpr c13
                clear c13
                by_cases c14 : (x6_2.length : Int) = 0
                · rw [if_pos c14] at H
                  have c14b0 : ((x6_2.length : Int) == 0) = true := beq_iff_eq.mpr c14
                  have c14b1 : ((x6_2.length : Int) != 0) = false := bne_eq_false_iff_eq.mpr c14
                  clear c14
                  obtain ⟨ji15, hji15⟩ : ∃ j_ : Int, (mn (wrap64 (x7_2 + a1)) a0) = j_ := ⟨_, rfl⟩
                  replace H : (if x6_2.length < 5864062014805 then (list_Pager.l0 k2 a0 a1 (x6_2 ++ [(⟨wrap64 ((x6_2.length : Int) + 1), x7_2, ji15⟩ : S28)]) (wrap64 (x7_2 + a1))) else (none)) = some (r1, r2) := by first | (rw [hji15] at H; exact H) | (simp only [hji15] at H ⊢; exact H)
                  have hji15_ : (if a0 < (wrap64 (x7_2 + a1)) then a0 else (wrap64 (x7_2 + a1))) = ji15 := hji15
                  by_cases c16 : x6_2.length < 5864062014805
                  · rw [if_pos c16] at H
                    have LMc16 := Aside0.mk c16
                    clear c16
                    obtain ⟨y104, hy104⟩ : ∃ y_ : List (S28), y_ = (x6_2 ++ [(⟨wrap64 ((x6_2.length : Int) + 1), x7_2, ji15⟩ : S28)]) := ⟨_, rfl⟩
                    replace H : (list_Pager.l0 k2 a0 a1 y104 (wrap64 (x7_2 + a1))) = some (r1, r2) := by first | (rw [hy104]; with_reducible exact H) | (have H2_ := (Option.bind_some _ _).symm.trans H; rw [hy104]; with_reducible exact H2_) | (have H2_ := (Option.bind_some _ _).symm.trans H; with_reducible exact H2_) | with_reducible exact H | (rw [hy104]; exact H) | exact H
                    have Ny104 := Aside0.mk hy104
                    clear hy104
                    have H' := Aside0.mk H
                    clear H
                    obtain ⟨Ao17, co17, eo17⟩ := Kd.R_slice HO_6.out
                    subst eo17
                    go_wp2_with (first | ((with_reducible refine gate_builtin (b := .append) (xs := #[.tmp 37, .tmp 48]) rfl ?_); (try (refine gate_guard (by rfl) ?_; dsimp only)); at_builtin; refine Kd.R_append k28 (w0 := w) w.heap.size rfl (.tmp 37) (.tmp 48) 23 28 (.agg #[(.int .i64 0), (.int .i64 0), (.int .i64 0)]) 24 rfl Tryd.underlying23 info28 rfl (by decide) (by omega) (.slice Ao17 x6_2.length co17) x6_2 (⟨wrap64 ((x6_2.length : Int) + 1), x7_2, ji15⟩ : S28) [.int .i64 (wrap64 ((x6_2.length : Int) + 1)), .int .i64 x7_2, .int .i64 ji15] (fun _ => True) (fun _ => False) rfl rfl ?aP (fun _ hk => hk.elim) ?aF ?aO ?aB ?aS ?aL ?_; (case aP => exact k28_mkM _ _ _ (⟨wrap64 ((x6_2.length : Int) + 1), x7_2, ji15⟩ : S28)); (case aB => exact (by repeat (first | (with_reducible first | exact HB.out | apply below_alloc | apply pw_below_drewN | apply below_drew1) | exact HB.out))); (case aF => exact (fun _ _ => trivial)); (case aO => exact (by (with_reducible repeat (first | apply Kd.R_alloc | apply Kd.R_drewN | apply Kd.R_drew)); exact HO_6.out)); (case aS => exact (below_size (by repeat (first | (with_reducible first | exact HB.out | apply below_alloc | apply pw_below_drewN | apply below_drew1) | exact HB.out)))); (case aL => have := LMc16.out; omega); intro v105 w18 ho hb hg hat; rw [← Ny104.out] at ho; have n0_ := Aside0.mk (hb); have n1_ := Aside0.mk (ho); clear HB; clear HO_6; have HB := n0_; have HO106 := n1_; clear n0_ n1_; clear ho hb hg hat))
                    go_roundg k2
                    case measure => have := HJ2.out; have := HK2.out; omega
                    case rel => exact ⟨(y104), (wrap64 (x7_2 + a1)), (by first | rfl | (simp; done) | (simp [*]; done)), H', ⟨by have := HJ2.out; have := HK2.out; omega⟩, ⟨by (with_reducible repeat (first | apply Kd.R_alloc | apply Kd.R_drewN | apply Kd.R_drew)); exact HO106.out⟩, ⟨by repeat (first | (with_reducible first | exact HB.out | apply below_alloc | apply pw_below_drewN | apply below_drew1) | exact HB.out)⟩⟩
                  · rw [if_neg c16] at H
                    exact absurd H (by simp)
                · rw [if_neg c14] at H
                  have c14b0 : ((x6_2.length : Int) == 0) = false := beq_eq_false_iff_ne.mpr c14
                  have c14b1 : ((x6_2.length : Int) != 0) = true := bne_iff_ne.mpr c14
                  have c14b2 : ¬ (x6_2 = []) := fun h_ => c14 (by rw [h_]; rfl)
                  simp only [Option.some.injEq, Prod.mk.injEq] at H
                  obtain ⟨rfl, rfl⟩ := H
                  obtain ⟨Ao19, co19, eo19⟩ := Kd.R_slice HO_6.out
                  subst eo19
                  go_wp2
                  go_ret2
                  exact ⟨_, by first | rfl | (simp [errW_none, errW_some] <;> rfl) | (simp [*, errW_none, errW_some] <;> rfl), by (with_reducible repeat (first | apply Kd.R_alloc | apply Kd.R_drewN | apply Kd.R_drew)); exact HO_6.out, by repeat (first | (with_reducible first | exact HB.out | apply below_alloc | apply pw_below_drewN | apply below_drew1) | exact HB.out)⟩
              · rw [if_neg c13] at H
                have c13b0 : (x7_2 == 0) = false := beq_eq_false_iff_ne.mpr c13
                have c13b1 : (x7_2 != 0) = true := bne_iff_ne.mpr c13
                simp only [Option.some.injEq, Prod.mk.injEq] at H
                obtain ⟨rfl, rfl⟩ := H
                go_wp2
                go_ret2
                exact ⟨_, by first | rfl | (simp [errW_none, errW_some] <;> rfl) | (simp [*, errW_none, errW_some] <;> rfl), by (with_reducible repeat (first | apply Kd.R_alloc | apply Kd.R_drewN | apply Kd.R_drew)); exact HO_6.out, by repeat (first | (with_reducible first | exact HB.out | apply below_alloc | apply pw_below_drewN | apply below_drew1) | exact HB.out)⟩

end Go.Proofs.YtakpmgfpenbmkaaDoor.PListParts
