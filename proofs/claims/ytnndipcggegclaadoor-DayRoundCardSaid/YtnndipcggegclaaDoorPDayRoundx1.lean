-- Made for this claim by a program of this session (xprint.py over the kit's printing program); Lean checks it.
import Derived.Test.YtnndipcggegclaaDoorPDayRoundx0
namespace Go.Proofs.YtnndipcggegclaaDoor.PDayRound
open Go.RowKit Go.Proofs.YtnndipcggegclaaDoorW.PrintWords Go.Proofs.YtnndipcggegclaaDoorW.PrintLast Go.Proofs.YtnndipcggegclaaDoorW.PrintMore
attribute [local go_sem] max2_int min2_int max_two min_two max_three min_three max_four min_four   -- for this text's walks alone
set_option linter.unusedVariables false
set_option linter.unusedSimpArgs false

/-! ### mastkeep2_awakeConf: function 11 -/
theorem ac_heap_set {w : World} {g i : Nat} {t : TypeId} {cs : Array Value} {u : Value} (h : w.heap[g]? = some (.cells cs t (0, 0))) : (w.setCell ⟨g, i, none⟩ u).heap[g]? = some (.cells (cs.setIfInBounds i u) t (0, 0)) := by
  simp [World.setCell, Array.getElem?_modify, h]
set_option maxHeartbeats 1000000 in
set_option maxRecDepth 100000 in
theorem ac_next_any (g B : Nat) (w0 w : World) (hg : w.heap[g]? = some (.cells #[.string ⟨#[61]⟩, .int .i64 0, .int .i64 0, .int .i64 0, .string ⟨#[]⟩, .int .i64 0, .int .i64 0, .int .i64 1] 96 (0, 0))) (hB : Below B w0 w) (hBg : B ≤ g) :
    Calls Tryd.prog 44 #[.pointer (some ⟨g, 0, none⟩), .bool false] w fun e w' => e = .returned (.tuple #[]) ∧
      w'.heap[g]? = some (.cells #[.string ⟨#[61]⟩, .int .i64 0, .int .i64 0, .int .i64 0, .string ⟨#[]⟩, .int .i64 0, .int .i64 8, .int .i64 1] 96 (0, 0)) ∧ Below B w0 w' := by
  have c0 : w.cell? ⟨g, 0, none⟩ = some (.string ⟨#[61]⟩) := by simp [World.cell?, hg]
  have c1 : w.cell? ⟨g, 1, none⟩ = some (.int .i64 0) := by simp [World.cell?, hg]
  have c5 : w.cell? ⟨g, 5, none⟩ = some (.int .i64 0) := by simp [World.cell?, hg]
  have c6 : w.cell? ⟨g, 6, none⟩ = some (.int .i64 0) := by simp [World.cell?, hg]
  have f5 : w.frozen? ⟨g, 5, none⟩ = false := by simp [World.frozen?, hg]
  have f6 : w.frozen? ⟨g, 6, none⟩ = false := by simp [World.frozen?, hg]
  have hb61 : ((⟨#[61]⟩ : ByteArray)[0]'(by decide)).toNat = 61 := rfl
  have hg' := Lib.hid hg
  have hB' := Lib.hid hB
  clear hg hB
  go_enter Tryd.func44, Tryd.ntmps44
  go_wp2
  go_loop [4] (fun c => c = .bool false) (fun _ => 0)
  case atStart => rfl
  case round =>
    subst hrel
    go_wp2
    repeat (go_quiet (fail); go_wp2_with (first | (go_at_call 93; refine (Shelf.strings_IndexByte _ _ _).mono ?_; rintro e w' ⟨rfl, rfl⟩) | go_in))
    go_end0
    go_wp2
    go_end0
    go_wp2
    refine bodyPost_ret (results_none rfl _ _ _) rfl ?_
    refine ⟨rfl, ac_heap_set (ac_heap_set hg'.out), ?_⟩
    repeat (first | exact hB'.out | apply pw_below_drewN | apply below_drew | refine Below.setCell ?_ hBg _)
set_option maxHeartbeats 2000000 in
set_option maxRecDepth 100000 in
theorem ac_entries_any (g : Nat) (w : World) (hg : w.heap[g]? = some (.cells #[.string ⟨#[61]⟩, .int .i64 0, .int .i64 0, .int .i64 0, .string ⟨#[]⟩, .int .i64 0, .int .i64 8, .int .i64 1] 96 (0, 0))) :
    Calls Tryd.prog 45 #[.pointer (some ⟨g, 0, none⟩), .int .i64 0, .int .i64 1] w fun e w' => e = .returned (.agg #[.int .i64 6, .bool false, .int .i64 0, .string ⟨#[]⟩, .slice none 0 0, .slice none 0 0]) ∧ Below w.heap.size w w' := by
  have p6 : w.cell? ⟨g, 6, none⟩ = some (.int .i64 8) := by simp [World.cell?, hg]
  have hlt := lt_of_block hg
  clear hg
  go_enter Tryd.func45, Tryd.ntmps45
  go_wp2_with fail
  go_loop [13] (fun v => True) (fun _ => 0)
  case atStart => trivial
  case round =>
    clear hrel
    go_wp2_with fail
    refine bodyPost_ret (v := .agg #[.int .i64 6, .bool false, .int .i64 0, .string ⟨#[]⟩, .slice none 0 0, .slice none 0 0]) (by simp [results, Tryd.results45, go_sem]) rfl ⟨rfl, ?_⟩
    exact below_alloc (below_alloc (Below.refl _ _) _) _
set_option maxHeartbeats 2000000 in
set_option maxRecDepth 100000 in
theorem ac_position_any (w : World) :
    Calls Tryd.prog 46 #[.string ⟨#[61]⟩, .int .i64 0] w fun e w' => e = .returned (.agg #[.int .i64 1, .int .i64 1]) ∧ Below w.heap.size w w' := by
  go_enter Tryd.func46, Tryd.ntmps46
  go_wp2_with (first | (go_at_call 67; refine (Shelf.strings_Count_one _ _ _).mono ?_; rintro e w' ⟨rfl, rfl⟩) | go_in)
  go_loop [5] (fun v => v = .int .i64 (-1)) (fun _ => 0)
  case atStart => rfl
  case round =>
    subst hrel
    have hc : Lib.countByte [] 10 = 0 := rfl
    have hw : wrap64 (1 + 0) = 1 := by unfold wrap64; omega
    have hw2 : wrap64 1 = 1 := by unfold wrap64; omega
    go_wp2
    refine bodyPost_ret (v := .agg #[.int .i64 1, .int .i64 1]) (by simp [results, Tryd.results46, go_sem]) rfl ⟨rfl, ?_⟩
    repeat (first | exact Below.refl _ _ | apply below_alloc | refine Below.setCell ?_ (Nat.le_refl _) _)
theorem ac_after_pos {n : Nat} {w w5 w3 : World} (hz : n + 2 < w5.heap.size) (hn : n = w.heap.size) (s6 : w5.cell? ⟨n + 1 + 1, 6, none⟩ = some (.int .i64 8))
    (hA : w5.heap[n]? = some (.cells #[.int .i64 0, .bool false, .int .i64 0, .string ⟨#[]⟩, .slice none 0 0, .slice none 0 0] 37 (0, 0))) (hP : w5.heap[n + 1]? = some (.cells #[.int .i64 0, .int .i64 0] 65 (0, 0)))
    (hb5 : Below w.heap.size w w5) (hb3' : Below w5.drew.heap.size w5.drew w3) :
    w3.cell? ⟨n + 1 + 1, 6, none⟩ = some (.int .i64 8) ∧ Hid (Below w.heap.size w w3) ∧ n + 2 < w3.heap.size ∧ Hid (w3.heap[n]? = some (.cells #[.int .i64 0, .bool false, .int .i64 0, .string ⟨#[]⟩, .slice none 0 0, .slice none 0 0] 37 (0, 0))) ∧ Hid (w3.heap[n + 1]? = some (.cells #[.int .i64 0, .int .i64 0] 65 (0, 0))) ∧ w3.cell? ⟨n, 0, none⟩ = some (.int .i64 0) ∧ w3.cell? ⟨n, 1, none⟩ = some (.bool false) ∧ w3.cell? ⟨n, 2, none⟩ = some (.int .i64 0) ∧ w3.cell? ⟨n, 3, none⟩ = some (.string ⟨#[]⟩) ∧ w3.cell? ⟨n, 4, none⟩ = some (.slice none 0 0) ∧ w3.cell? ⟨n, 5, none⟩ = some (.slice none 0 0) ∧ w3.frozen? ⟨n, 0, none⟩ = false ∧ w3.frozen? ⟨n, 1, none⟩ = false ∧ w3.frozen? ⟨n, 2, none⟩ = false ∧ w3.frozen? ⟨n, 3, none⟩ = false ∧ w3.frozen? ⟨n, 4, none⟩ = false ∧ w3.frozen? ⟨n, 5, none⟩ = false ∧ w3.cell? ⟨n + 1, 0, none⟩ = some (.int .i64 0) ∧ w3.cell? ⟨n + 1, 1, none⟩ = some (.int .i64 0) ∧ w3.frozen? ⟨n + 1, 0, none⟩ = false ∧ w3.frozen? ⟨n + 1, 1, none⟩ = false := by
  have hb3 : Below w5.heap.size w5 w3 := ⟨hb3'.os, hb3'.tape, hb3'.output, hb3'.size, hb3'.block⟩
  have hA3 := (hb3.block n (by omega)).trans hA
  have hP3 := (hb3.block (n + 1) (by omega)).trans hP
  refine ⟨(hb3.cell (p := ⟨n + 1 + 1, 6, none⟩) (by show n + 1 + 1 < _; omega)).trans s6, below_then hb5 (by omega) hb3, Nat.lt_of_lt_of_le hz hb3.size, hA3, hP3, ?_⟩
  refine ⟨by simp [World.cell?, hA3], by simp [World.cell?, hA3], by simp [World.cell?, hA3], by simp [World.cell?, hA3], by simp [World.cell?, hA3], by simp [World.cell?, hA3], by simp [World.frozen?, hA3], by simp [World.frozen?, hA3], by simp [World.frozen?, hA3], by simp [World.frozen?, hA3], by simp [World.frozen?, hA3], by simp [World.frozen?, hA3], by simp [World.cell?, hP3], by simp [World.cell?, hP3], by simp [World.frozen?, hP3], by simp [World.frozen?, hP3]⟩
theorem ac_res25 {W : World} {n : Nat} {tmps : Array Value} (h2 : tmps.getD 2 undef = .pointer (some ⟨n, 0, none⟩)) (h3 : tmps.getD 3 undef = .pointer (some ⟨n + 1, 0, none⟩)) (h4 : tmps.getD 4 undef = .int .i64 8)
    (hA : W.heap[n]? = some (.cells #[.int .i64 0, .bool false, .int .i64 0, .string ⟨#[]⟩, .slice none 0 0, .slice none 0 0] 37 (0, 0))) (hP : W.heap[n + 1]? = some (.cells #[.int .i64 1, .int .i64 1] 65 (0, 0))) :
    (results Tryd.f25 tmps).run Tryd.prog W = .ok (.tuple #[.agg #[.int .i64 0, .bool false, .int .i64 0, .string ⟨#[]⟩, .slice none 0 0, .slice none 0 0], .agg #[.int .i64 1, .int .i64 1], .int .i64 8]) W := by
  have h2' : tmps[2]?.getD undef = .pointer (some ⟨n, 0, none⟩) := by simpa using h2
  have h3' : tmps[3]?.getD undef = .pointer (some ⟨n + 1, 0, none⟩) := by simpa using h3
  have h4' : tmps[4]?.getD undef = .int .i64 8 := by simpa using h4
  have ra := run_loadVar_row (P := Tryd.prog) W n 37 37 _ (0, 0) _ hA Tryd.underlying37 rfl (by kernel_rfl)
  have rp := run_loadVar_row (P := Tryd.prog) W (n + 1) 65 65 _ (0, 0) _ hP Tryd.underlying65 rfl (by kernel_rfl)
  simp [results, Tryd.results25, h2', h3', h4', asAddr, ra, rp, Result.andThen]
theorem ac_bset {B b i : Nat} {w w' : World} {v : Value} (h : Below B w w') (hb : B ≤ b) : Below B w (w'.setCell ⟨b, i, none⟩ v) := Below.setCell h hb v
theorem ac_set_other {w : World} {g n i : Nat} {u : Value} (h : g ≠ n) : (w.setCell ⟨n, i, none⟩ u).heap[g]? = w.heap[g]? := by
  simp [World.setCell, Array.getElem?_modify, Ne.symm h]
set_option maxHeartbeats 1000000 in
theorem ac_fin1 {w w3 : World} {n : Nat} (hn : n = w.heap.size) (hb : Below w.heap.size w w3) (hA : w3.heap[n]? = some (.cells #[.int .i64 0, .bool false, .int .i64 0, .string ⟨#[]⟩, .slice none 0 0, .slice none 0 0] 37 (0, 0))) (hP : w3.heap[n + 1]? = some (.cells #[.int .i64 0, .int .i64 0] 65 (0, 0))) :
    (((((((((w3.setCell ⟨n, 0, none⟩ (.int .i64 0)).setCell ⟨n, 1, none⟩ (.bool false)).setCell ⟨n, 2, none⟩ (.int .i64 0)).setCell ⟨n, 3, none⟩ (.string ⟨#[]⟩)).setCell ⟨n, 4, none⟩ (.slice none 0 0)).setCell ⟨n, 5, none⟩ (.slice none 0 0)).setCell ⟨n + 1, 0, none⟩ (.int .i64 1)).setCell ⟨n + 1, 1, none⟩ (.int .i64 1))).heap[n]? = some (.cells #[.int .i64 0, .bool false, .int .i64 0, .string ⟨#[]⟩, .slice none 0 0, .slice none 0 0] 37 (0, 0)) ∧ (((((((((w3.setCell ⟨n, 0, none⟩ (.int .i64 0)).setCell ⟨n, 1, none⟩ (.bool false)).setCell ⟨n, 2, none⟩ (.int .i64 0)).setCell ⟨n, 3, none⟩ (.string ⟨#[]⟩)).setCell ⟨n, 4, none⟩ (.slice none 0 0)).setCell ⟨n, 5, none⟩ (.slice none 0 0)).setCell ⟨n + 1, 0, none⟩ (.int .i64 1)).setCell ⟨n + 1, 1, none⟩ (.int .i64 1))).heap[n + 1]? = some (.cells #[.int .i64 1, .int .i64 1] 65 (0, 0)) ∧ Below w.heap.size w (((((((((w3.setCell ⟨n, 0, none⟩ (.int .i64 0)).setCell ⟨n, 1, none⟩ (.bool false)).setCell ⟨n, 2, none⟩ (.int .i64 0)).setCell ⟨n, 3, none⟩ (.string ⟨#[]⟩)).setCell ⟨n, 4, none⟩ (.slice none 0 0)).setCell ⟨n, 5, none⟩ (.slice none 0 0)).setCell ⟨n + 1, 0, none⟩ (.int .i64 1)).setCell ⟨n + 1, 1, none⟩ (.int .i64 1))) := by
  refine ⟨?_, ?_, ?_⟩
  · have hk : n ≠ n + 1 := by omega
    rw [ac_set_other hk, ac_set_other hk, ac_heap_set (ac_heap_set (ac_heap_set (ac_heap_set (ac_heap_set (ac_heap_set hA)))))]; simp
  · have hk : n + 1 ≠ n := by omega
    have h' := hP
    rw [← ac_set_other (w := w3) (i := 0) (u := .int .i64 0) hk, ← ac_set_other (i := 1) (u := .bool false) hk, ← ac_set_other (i := 2) (u := .int .i64 0) hk, ← ac_set_other (i := 3) (u := .string ⟨#[]⟩) hk, ← ac_set_other (i := 4) (u := .slice none 0 0) hk, ← ac_set_other (i := 5) (u := .slice none 0 0) hk] at h'
    rw [ac_heap_set (ac_heap_set h')]; simp
  · have k0 : w.heap.size ≤ n := by omega
    have k1 : w.heap.size ≤ n + 1 := by omega
    exact (ac_bset (ac_bset (ac_bset (ac_bset (ac_bset (ac_bset (ac_bset (ac_bset hb k0) k0) k0) k0) k0) k0) k1) k1)
set_option maxHeartbeats 1000000 in
theorem ac_fin2 {w w3 : World} {n : Nat} (hn : n = w.heap.size) (hb : Below w.heap.size w w3) (hA : w3.heap[n]? = some (.cells #[.int .i64 0, .bool false, .int .i64 0, .string ⟨#[]⟩, .slice none 0 0, .slice none 0 0] 37 (0, 0))) (hP : w3.heap[n + 1]? = some (.cells #[.int .i64 0, .int .i64 0] 65 (0, 0))) :
    (((((((((w3.setCell ⟨n + 1, 0, none⟩ (.int .i64 1)).setCell ⟨n + 1, 1, none⟩ (.int .i64 1)).setCell ⟨n, 0, none⟩ (.int .i64 0)).setCell ⟨n, 1, none⟩ (.bool false)).setCell ⟨n, 2, none⟩ (.int .i64 0)).setCell ⟨n, 3, none⟩ (.string ⟨#[]⟩)).setCell ⟨n, 4, none⟩ (.slice none 0 0)).setCell ⟨n, 5, none⟩ (.slice none 0 0))).heap[n]? = some (.cells #[.int .i64 0, .bool false, .int .i64 0, .string ⟨#[]⟩, .slice none 0 0, .slice none 0 0] 37 (0, 0)) ∧ (((((((((w3.setCell ⟨n + 1, 0, none⟩ (.int .i64 1)).setCell ⟨n + 1, 1, none⟩ (.int .i64 1)).setCell ⟨n, 0, none⟩ (.int .i64 0)).setCell ⟨n, 1, none⟩ (.bool false)).setCell ⟨n, 2, none⟩ (.int .i64 0)).setCell ⟨n, 3, none⟩ (.string ⟨#[]⟩)).setCell ⟨n, 4, none⟩ (.slice none 0 0)).setCell ⟨n, 5, none⟩ (.slice none 0 0))).heap[n + 1]? = some (.cells #[.int .i64 1, .int .i64 1] 65 (0, 0)) ∧ Below w.heap.size w (((((((((w3.setCell ⟨n + 1, 0, none⟩ (.int .i64 1)).setCell ⟨n + 1, 1, none⟩ (.int .i64 1)).setCell ⟨n, 0, none⟩ (.int .i64 0)).setCell ⟨n, 1, none⟩ (.bool false)).setCell ⟨n, 2, none⟩ (.int .i64 0)).setCell ⟨n, 3, none⟩ (.string ⟨#[]⟩)).setCell ⟨n, 4, none⟩ (.slice none 0 0)).setCell ⟨n, 5, none⟩ (.slice none 0 0))) := by
  refine ⟨?_, ?_, ?_⟩
  · have hk : n ≠ n + 1 := by omega
    have h' := hA
    rw [← ac_set_other (w := w3) (i := 0) (u := .int .i64 1) hk, ← ac_set_other (i := 1) (u := .int .i64 1) hk] at h'
    rw [ac_heap_set (ac_heap_set (ac_heap_set (ac_heap_set (ac_heap_set (ac_heap_set h')))))]; simp
  · have hk : n + 1 ≠ n := by omega
    rw [ac_set_other hk, ac_set_other hk, ac_set_other hk, ac_set_other hk, ac_set_other hk, ac_set_other hk, ac_heap_set (ac_heap_set hP)]; simp
  · have k0 : w.heap.size ≤ n := by omega
    have k1 : w.heap.size ≤ n + 1 := by omega
    exact (ac_bset (ac_bset (ac_bset (ac_bset (ac_bset (ac_bset (ac_bset (ac_bset hb k1) k1) k0) k0) k0) k0) k0) k0)
set_option maxHeartbeats 16000000 in
set_option maxRecDepth 100000 in
theorem ac_parse_any (w : World) :
    Calls Tryd.prog 25 #[.string ⟨#[61]⟩] w fun e w' => e = .returned (.tuple #[.agg #[.int .i64 0, .bool false, .int .i64 0, .string ⟨#[]⟩, .slice none 0 0, .slice none 0 0], .agg #[.int .i64 1, .int .i64 1], .int .i64 8]) ∧ Below w.heap.size w w' := by
  go_enter Tryd.func25, Tryd.ntmps25
  go_wp2_with fail
  generalize hW : World.alloc _ _ = W
  have hg : W.heap[w.heap.size + 2]? = some (.cells #[.string ⟨#[61]⟩, .int .i64 0, .int .i64 0, .int .i64 0, .string ⟨#[]⟩, .int .i64 0, .int .i64 0, .int .i64 1] 96 (0, 0)) := by
    rw [← hW]
    simpa using heap_alloc_new ((w.alloc _).alloc _) _
  have hb : Below w.heap.size w W := by
    rw [← hW]
    exact below_alloc (below_alloc (below_alloc (Below.refl _ _) _) _) _
  have hz : W.heap.size = w.heap.size + 3 := by rw [← hW]; simp
  have hA : W.heap[w.heap.size]? = some (.cells #[.int .i64 0, .bool false, .int .i64 0, .string ⟨#[]⟩, .slice none 0 0, .slice none 0 0] 37 (0, 0)) := by
    rw [← hW]
    exact (Below.heap_alloc _ _ _ (by simp; omega)).trans ((Below.heap_alloc _ _ _ (by simp)).trans (heap_alloc_new w _))
  have hP : W.heap[w.heap.size + 1]? = some (.cells #[.int .i64 0, .int .i64 0] 65 (0, 0)) := by
    rw [← hW]
    refine (Below.heap_alloc _ _ _ (by simp)).trans ?_
    simpa using heap_alloc_new (w.alloc _) _
  clear hW
  refine (ac_next_any (w.heap.size + 1 + 1) (w.heap.size + 2) W W hg (Below.refl _ _) (by omega)).mono ?_
  rintro e w1 ⟨rfl, hg1, hb1⟩
  have hA1 := (hb1.block _ (by omega)).trans hA
  have hP1 := (hb1.block _ (by omega)).trans hP
  have hz1 : w.heap.size + 2 < w1.heap.size := lt_of_block hg1
  have hbw : Below w.heap.size w w1 := hb.trans (hb1.mono (by omega))
  have p0 : w1.cell? ⟨w.heap.size + 1 + 1, 0, none⟩ = some (.string ⟨#[61]⟩) := by simp [World.cell?, hg1]
  have p2 : w1.cell? ⟨w.heap.size + 1 + 1, 2, none⟩ = some (.int .i64 0) := by simp [World.cell?, hg1]
  have p5 : w1.cell? ⟨w.heap.size + 1 + 1, 5, none⟩ = some (.int .i64 0) := by simp [World.cell?, hg1]
  have p6 : w1.cell? ⟨w.heap.size + 1 + 1, 6, none⟩ = some (.int .i64 8) := by simp [World.cell?, hg1]
  have hg1' := Lib.hid hg1
  have hA1' := Lib.hid hA1
  have hP1' := Lib.hid hP1
  clear hg hb hz hA hP hb1 hg1 hA1 hP1
  go_wp2_with fail
  refine (ac_entries_any _ w1 hg1'.out).mono ?_
  rintro e w2 ⟨rfl, hb2⟩
  have q0 := (hb2.cell (p := ⟨w.heap.size + 1 + 1, 0, none⟩) (by omega)).trans p0
  have q5 := (hb2.cell (p := ⟨w.heap.size + 1 + 1, 5, none⟩) (by omega)).trans p5
  have q6 := (hb2.cell (p := ⟨w.heap.size + 1 + 1, 6, none⟩) (by omega)).trans p6
  have hz2 : w.heap.size + 2 < w2.heap.size := Nat.lt_of_lt_of_le hz1 hb2.size
  have hA2 := (hb2.block _ (by omega)).trans hA1'.out
  have hP2 := (hb2.block _ (by omega)).trans hP1'.out
  have hbw2 : Below w.heap.size w w2 := hbw.trans (hb2.mono (by omega))
  clear p0 p2 p5 p6 hbw hb2 hg1' hA1' hP1' hz1
  go_wp2_with fail
  generalize hW2 : World.alloc w2 _ = w5
  have hz5 : w2.heap.size < w5.heap.size := by rw [← hW2]; simp
  have s5 : w5.cell? ⟨w.heap.size + 1 + 1, 5, none⟩ = some (.int .i64 0) := by rw [← hW2]; exact (World.cell?_alloc_lt _ _ _ (by show _ < w2.heap.size; omega)).trans q5
  have s6 : w5.cell? ⟨w.heap.size + 1 + 1, 6, none⟩ = some (.int .i64 8) := by rw [← hW2]; exact (World.cell?_alloc_lt _ _ _ (by show _ < w2.heap.size; omega)).trans q6
  have hA5 : w5.heap[w.heap.size]? = some (.cells #[.int .i64 0, .bool false, .int .i64 0, .string ⟨#[]⟩, .slice none 0 0, .slice none 0 0] 37 (0, 0)) := by rw [← hW2]; exact (Below.heap_alloc _ _ _ (by omega)).trans hA2
  have hP5 : w5.heap[w.heap.size + 1]? = some (.cells #[.int .i64 0, .int .i64 0] 65 (0, 0)) := by rw [← hW2]; exact (Below.heap_alloc _ _ _ (by omega)).trans hP2
  have hb5 : Below w.heap.size w w5 := by rw [← hW2]; exact below_alloc hbw2 _
  have hA5' := Lib.hid hA5
  have hP5' := Lib.hid hP5
  clear hW2 hA2 hP2 hA5 hP5 hbw2 q0 q5 q6
  have hz6 : w.heap.size + 2 < w5.heap.size := by omega
  go_region_with (go_at_call 46; go_must (refine (ac_position_any _).mono ?_); rintro e w3 ⟨rfl, hb3⟩; obtain ⟨r6, hbw3, hz3, hA3, hP3, a0, a1, a2, a3, a4, a5, fa0, fa1, fa2, fa3, fa4, fa5, b0, b1, fb0, fb1⟩ := ac_after_pos hz6 rfl s6 hA5'.out hP5'.out hb5 hb3; clear hb3 s5 s6 hb5 hA5' hP5' hz6)
  all_goals
    go_wp2
    simp only [Act.put, List.getElem_toArray, List.getElem_cons_succ, List.getElem_cons_zero, List.setIfInBounds_toArray, List.set_cons_succ, List.set_cons_zero]
    first
    | (obtain ⟨rA, rP, rb⟩ := ac_fin1 (n := w.heap.size) rfl hbw3.out hA3.out hP3.out
       refine bodyPost_ret (v := .tuple #[.agg #[.int .i64 0, .bool false, .int .i64 0, .string ⟨#[]⟩, .slice none 0 0, .slice none 0 0], .agg #[.int .i64 1, .int .i64 1], .int .i64 8]) ?_ rfl ⟨rfl, rb⟩
       refine ac_res25 (n := w.heap.size) ?_ ?_ ?_ rA rP <;> rfl)
    | (obtain ⟨rA, rP, rb⟩ := ac_fin2 (n := w.heap.size) rfl hbw3.out hA3.out hP3.out
       refine bodyPost_ret (v := .tuple #[.agg #[.int .i64 0, .bool false, .int .i64 0, .string ⟨#[]⟩, .slice none 0 0, .slice none 0 0], .agg #[.int .i64 1, .int .i64 1], .int .i64 8]) ?_ rfl ⟨rfl, rb⟩
       refine ac_res25 (n := w.heap.size) ?_ ?_ ?_ rA rP <;> rfl)
def mastkeep2_awakeConf.f : Option Bool := some true
theorem mastkeep2_awakeConf.calls (r : Bool) (w : World) (h : mastkeep2_awakeConf.f = some r) :
    Calls Tryd.prog 11 #[] w fun e w' => e = .returned (.bool r) ∧ Below w.heap.size w w' := by
  obtain rfl := Option.some.inj h
  clear h
  go_enter Tryd.func11, Tryd.ntmps11
  go_wp2_with (go_at_call 25; refine (ac_parse_any _).mono ?_; rintro e w2 ⟨rfl, hb2⟩)
  go_ret
  exact ⟨rfl, below_alloc (below_alloc hb2 _) _⟩

/-! ### conf_badDay: function 29 -/
def conf_badDay.f (a0 : Int) : Option (Bool) := if a0 < 0 then (some true) else (some (decide (a0 > 84005)))
set_option maxHeartbeats 8000000 in
set_option maxRecDepth 100000 in
theorem conf_badDay.calls (a0 : Int) (r : Bool) (w : World) (h : conf_badDay.f a0 = some r) :
    Calls Tryd.prog 29 #[.int .i64 a0] w fun e w' => e = .returned (.bool r) ∧ Drawn0 w w' := by
  have H : (if a0 < 0 then (some true) else (some (decide (a0 > 84005)))) = some r := h
  clear h
  by_cases c2 : a0 < 0
  · rw [if_pos c2] at H
    have c2b0 : decide (a0 < 0) = true := decide_eq_true c2
    clear c2
    obtain rfl := Option.some.inj H
    go_enter Tryd.func29, Tryd.ntmps29
    go_wp2
    go_ret
    exact ⟨by first | rfl | (simp; done) | (simp [*]; done), by repeat (first | exact Drawn0.refl _ | apply Drawn0.step)⟩
  · rw [if_neg c2] at H
    have c2b0 : decide (a0 < 0) = false := decide_eq_false c2
    clear c2
    obtain rfl := Option.some.inj H
    go_enter Tryd.func29, Tryd.ntmps29
    go_wp2
    go_ret
    exact ⟨by first | rfl | (simp; done) | (simp [*]; done), by repeat (first | exact Drawn0.refl _ | apply Drawn0.step)⟩

/-! ### conf_before: function 49 -/
def conf_before.f (a0 : Int) : Option (Int) := some (wrap64 ((wrap64 ((wrap64 ((wrap64 ((wrap64 (365 * (wrap64 (a0 - 1970)))) + (wrap64 (Int.tdiv (wrap64 (a0 - 1)) 4)))) - (wrap64 (Int.tdiv (wrap64 (a0 - 1)) 100)))) + (wrap64 (Int.tdiv (wrap64 (a0 - 1)) 400)))) - 477))
set_option maxHeartbeats 8000000 in
set_option maxRecDepth 100000 in
theorem conf_before.calls (a0 : Int) (r : Int) (w : World) (h : conf_before.f a0 = some r) :
    Calls Tryd.prog 49 #[.int .i64 a0] w fun e w' => e = .returned (.int .i64 r) ∧ Drawn0 w w' := by
  have H : (some (wrap64 ((wrap64 ((wrap64 ((wrap64 ((wrap64 (365 * (wrap64 (a0 - 1970)))) + (wrap64 (Int.tdiv (wrap64 (a0 - 1)) 4)))) - (wrap64 (Int.tdiv (wrap64 (a0 - 1)) 100)))) + (wrap64 (Int.tdiv (wrap64 (a0 - 1)) 400)))) - 477))) = some r := h
  clear h
  obtain rfl := Option.some.inj H
  go_enter Tryd.func49, Tryd.ntmps49
  go_wp2
  go_ret
  exact ⟨by first | rfl | (simp; done) | (simp [*]; done), by repeat (first | exact Drawn0.refl _ | apply Drawn0.step)⟩

/-! ### conf_leap: function 77 -/
def conf_leap.f (a0 : Int) : Option (Bool) := if (Int.tmod a0 4) = 0 then (if (Int.tmod a0 100) = 0 then (some ((Int.tmod a0 400) == 0)) else (some true)) else (some false)
set_option maxHeartbeats 8000000 in
set_option maxRecDepth 100000 in
theorem conf_leap.calls (a0 : Int) (r : Bool) (w : World) (h : conf_leap.f a0 = some r) :
    Calls Tryd.prog 77 #[.int .i64 a0] w fun e w' => e = .returned (.bool r) ∧ Drawn0 w w' := by
  have H : (if (Int.tmod a0 4) = 0 then (if (Int.tmod a0 100) = 0 then (some ((Int.tmod a0 400) == 0)) else (some true)) else (some false)) = some r := h
  clear h
  by_cases c2 : (Int.tmod a0 4) = 0
  · rw [if_pos c2] at H
    have c2b0 : ((Int.tmod a0 4) == 0) = true := beq_iff_eq.mpr c2
    have c2b1 : ((Int.tmod a0 4) != 0) = false := bne_eq_false_iff_eq.mpr c2
    clear c2
    by_cases c3 : (Int.tmod a0 100) = 0
    · rw [if_pos c3] at H
      have c3b0 : ((Int.tmod a0 100) == 0) = true := beq_iff_eq.mpr c3
      have c3b1 : ((Int.tmod a0 100) != 0) = false := bne_eq_false_iff_eq.mpr c3
      clear c3
      obtain rfl := Option.some.inj H
      go_enter Tryd.func77, Tryd.ntmps77
      go_wp2
      go_ret
      exact ⟨by first | rfl | (simp; done) | (simp [*]; done), by repeat (first | exact Drawn0.refl _ | apply Drawn0.step)⟩
    · rw [if_neg c3] at H
      have c3b0 : ((Int.tmod a0 100) == 0) = false := beq_eq_false_iff_ne.mpr c3
      have c3b1 : ((Int.tmod a0 100) != 0) = true := bne_iff_ne.mpr c3
      obtain rfl := Option.some.inj H
      go_enter Tryd.func77, Tryd.ntmps77
      go_wp2
      go_ret
      exact ⟨by first | rfl | (simp; done) | (simp [*]; done), by repeat (first | exact Drawn0.refl _ | apply Drawn0.step)⟩
  · rw [if_neg c2] at H
    have c2b0 : ((Int.tmod a0 4) == 0) = false := beq_eq_false_iff_ne.mpr c2
    have c2b1 : ((Int.tmod a0 4) != 0) = true := bne_iff_ne.mpr c2
    obtain rfl := Option.some.inj H
    go_enter Tryd.func77, Tryd.ntmps77
    go_wp2
    go_ret
    exact ⟨by first | rfl | (simp; done) | (simp [*]; done), by repeat (first | exact Drawn0.refl _ | apply Drawn0.step)⟩

/-! ### conf_yearDays: function 50 -/
def conf_yearDays.f (a0 : Int) : Option (Int) := (conf_leap.f a0).bind fun t101 => (if t101 = true then (some 366) else (some 365))
set_option maxHeartbeats 8000000 in
set_option maxRecDepth 100000 in
theorem conf_yearDays.calls (a0 : Int) (r : Int) (w : World) (h : conf_yearDays.f a0 = some r) :
    Calls Tryd.prog 50 #[.int .i64 a0] w fun e w' => e = .returned (.int .i64 r) ∧ Drawn0 w w' := by
  have H : ((conf_leap.f a0).bind fun t101 => (if t101 = true then (some 366) else (some 365))) = some r := h
  clear h
  replace H := Option.bind_eq_some_iff.mp H
  obtain ⟨t101, A20, H⟩ := H
  replace H : (if t101 = true then (some 366) else (some 365)) = some r := H
  have A2 := Aside0.mk A20
  clear A20
  by_cases c3 : t101 = true
  · subst c3
    have H1 : (some 366) = some r := by rw [if_pos rfl] at H; exact H
    clear H
    have H := H1
    clear H1
    obtain rfl := Option.some.inj H
    go_enter Tryd.func50, Tryd.ntmps50
    go_wp2_with (first | ((with_reducible refine gate_callee (f := 77) rfl ?_); refine goesL_ (some 4) rfl rfl Tryd.func77 (by kernel_rfl) rfl #[.int .i64 a0] rfl (by (try simp only [List.map_toArray, List.map_cons, List.map_nil]); first | done | rfl | (simp only [List.length_drop, List.length_take]; rfl)) ?_; (with_reducible refine (conf_leap.calls a0 true _ A2.out).mono ?_); rintro e w' ⟨rfl, ⟨nd, rfl⟩⟩; refine ⟨_, rfl, ?_⟩))
    go_ret
    exact ⟨by first | rfl | (simp; done) | (simp [*]; done), by repeat (first | exact Drawn0.refl _ | apply Drawn0.step)⟩
  · replace c3 := Bool.eq_false_iff.mpr c3
    subst c3
    have H1 : (some 365) = some r := by rw [if_neg (show ¬ (false = true) by decide)] at H; exact H
    clear H
    have H := H1
    clear H1
    obtain rfl := Option.some.inj H
    go_enter Tryd.func50, Tryd.ntmps50
    go_wp2_with (first | ((with_reducible refine gate_callee (f := 77) rfl ?_); refine goesL_ (some 4) rfl rfl Tryd.func77 (by kernel_rfl) rfl #[.int .i64 a0] rfl (by (try simp only [List.map_toArray, List.map_cons, List.map_nil]); first | done | rfl | (simp only [List.length_drop, List.length_take]; rfl)) ?_; (with_reducible refine (conf_leap.calls a0 false _ A2.out).mono ?_); rintro e w' ⟨rfl, ⟨nd, rfl⟩⟩; refine ⟨_, rfl, ?_⟩))
    go_ret
    exact ⟨by first | rfl | (simp; done) | (simp [*]; done), by repeat (first | exact Drawn0.refl _ | apply Drawn0.step)⟩

/-! ### conf_monthDays: function 51 -/
def conf_monthDays.f (a0 : Int) (a1 : Int) : Option (Int) := if a1 = 2 then ((conf_leap.f a0).bind fun t102 => (if t102 = true then (some 29) else (some 28))) else (if a1 = 4 then (some 30) else (if a1 = 6 then (some 30) else (if a1 = 9 then (some 30) else (if a1 = 11 then (some 30) else (some 31)))))
set_option maxHeartbeats 8000000 in
set_option maxRecDepth 100000 in
theorem conf_monthDays.calls (a0 : Int) (a1 : Int) (r : Int) (w : World) (h : conf_monthDays.f a0 a1 = some r) :
    Calls Tryd.prog 51 #[.int .i64 a0, .int .i64 a1] w fun e w' => e = .returned (.int .i64 r) ∧ Drawn0 w w' := by
  have H : (if a1 = 2 then ((conf_leap.f a0).bind fun t102 => (if t102 = true then (some 29) else (some 28))) else (if a1 = 4 then (some 30) else (if a1 = 6 then (some 30) else (if a1 = 9 then (some 30) else (if a1 = 11 then (some 30) else (some 31)))))) = some r := h
  clear h
  by_cases c3 : a1 = 2
  · rw [if_pos c3] at H
    have c3b0 : (a1 == 2) = true := beq_iff_eq.mpr c3
    have c3b1 : (a1 != 2) = false := bne_eq_false_iff_eq.mpr c3
    clear c3
    replace H := Option.bind_eq_some_iff.mp H
    obtain ⟨t102, A40, H⟩ := H
    replace H : (if t102 = true then (some 29) else (some 28)) = some r := H
    have A4 := Aside0.mk A40
    clear A40
    by_cases c5 : t102 = true
    · subst c5
      have H1 : (some 29) = some r := by rw [if_pos rfl] at H; exact H
      clear H
      have H := H1
      clear H1
      obtain rfl := Option.some.inj H
      go_enter Tryd.func51, Tryd.ntmps51
      go_wp2_with (first | ((with_reducible refine gate_callee (f := 77) rfl ?_); refine goesL_ (some 9) rfl rfl Tryd.func77 (by kernel_rfl) rfl #[.int .i64 a0] rfl (by (try simp only [List.map_toArray, List.map_cons, List.map_nil]); first | done | rfl | (simp only [List.length_drop, List.length_take]; rfl)) ?_; (with_reducible refine (conf_leap.calls a0 true _ A4.out).mono ?_); rintro e w' ⟨rfl, ⟨nd, rfl⟩⟩; refine ⟨_, rfl, ?_⟩))
      go_ret
      exact ⟨by first | rfl | (simp; done) | (simp [*]; done), by repeat (first | exact Drawn0.refl _ | apply Drawn0.step)⟩
    · replace c5 := Bool.eq_false_iff.mpr c5
      subst c5
      have H1 : (some 28) = some r := by rw [if_neg (show ¬ (false = true) by decide)] at H; exact H
      clear H
      have H := H1
      clear H1
      obtain rfl := Option.some.inj H
      go_enter Tryd.func51, Tryd.ntmps51
      go_wp2_with (first | ((with_reducible refine gate_callee (f := 77) rfl ?_); refine goesL_ (some 9) rfl rfl Tryd.func77 (by kernel_rfl) rfl #[.int .i64 a0] rfl (by (try simp only [List.map_toArray, List.map_cons, List.map_nil]); first | done | rfl | (simp only [List.length_drop, List.length_take]; rfl)) ?_; (with_reducible refine (conf_leap.calls a0 false _ A4.out).mono ?_); rintro e w' ⟨rfl, ⟨nd, rfl⟩⟩; refine ⟨_, rfl, ?_⟩))
      go_ret
      exact ⟨by first | rfl | (simp; done) | (simp [*]; done), by repeat (first | exact Drawn0.refl _ | apply Drawn0.step)⟩
  · rw [if_neg c3] at H
    have c3b0 : (a1 == 2) = false := beq_eq_false_iff_ne.mpr c3
    have c3b1 : (a1 != 2) = true := bne_iff_ne.mpr c3
    by_cases c6 : a1 = 4
    · rw [if_pos c6] at H
      have c6b0 : (a1 == 4) = true := beq_iff_eq.mpr c6
      have c6b1 : (a1 != 4) = false := bne_eq_false_iff_eq.mpr c6
      clear c6
      obtain rfl := Option.some.inj H
      go_enter Tryd.func51, Tryd.ntmps51
      go_wp2
      go_ret
      exact ⟨by first | rfl | (simp; done) | (simp [*]; done), by repeat (first | exact Drawn0.refl _ | apply Drawn0.step)⟩
    · rw [if_neg c6] at H
      have c6b0 : (a1 == 4) = false := beq_eq_false_iff_ne.mpr c6
      have c6b1 : (a1 != 4) = true := bne_iff_ne.mpr c6
      by_cases c7 : a1 = 6
      · rw [if_pos c7] at H
        have c7b0 : (a1 == 6) = true := beq_iff_eq.mpr c7
        have c7b1 : (a1 != 6) = false := bne_eq_false_iff_eq.mpr c7
        clear c7
        obtain rfl := Option.some.inj H
        go_enter Tryd.func51, Tryd.ntmps51
        go_wp2
        go_ret
        exact ⟨by first | rfl | (simp; done) | (simp [*]; done), by repeat (first | exact Drawn0.refl _ | apply Drawn0.step)⟩
      · rw [if_neg c7] at H
        have c7b0 : (a1 == 6) = false := beq_eq_false_iff_ne.mpr c7
        have c7b1 : (a1 != 6) = true := bne_iff_ne.mpr c7
        by_cases c8 : a1 = 9
        · rw [if_pos c8] at H
          have c8b0 : (a1 == 9) = true := beq_iff_eq.mpr c8
          have c8b1 : (a1 != 9) = false := bne_eq_false_iff_eq.mpr c8
          clear c8
          obtain rfl := Option.some.inj H
          go_enter Tryd.func51, Tryd.ntmps51
          go_wp2
          go_ret
          exact ⟨by first | rfl | (simp; done) | (simp [*]; done), by repeat (first | exact Drawn0.refl _ | apply Drawn0.step)⟩
        · rw [if_neg c8] at H
          have c8b0 : (a1 == 9) = false := beq_eq_false_iff_ne.mpr c8
          have c8b1 : (a1 != 9) = true := bne_iff_ne.mpr c8
          by_cases c9 : a1 = 11
          · rw [if_pos c9] at H
            have c9b0 : (a1 == 11) = true := beq_iff_eq.mpr c9
            have c9b1 : (a1 != 11) = false := bne_eq_false_iff_eq.mpr c9
            clear c9
            obtain rfl := Option.some.inj H
            go_enter Tryd.func51, Tryd.ntmps51
            go_wp2
            go_ret
            exact ⟨by first | rfl | (simp; done) | (simp [*]; done), by repeat (first | exact Drawn0.refl _ | apply Drawn0.step)⟩
          · rw [if_neg c9] at H
            have c9b0 : (a1 == 11) = false := beq_eq_false_iff_ne.mpr c9
            have c9b1 : (a1 != 11) = true := bne_iff_ne.mpr c9
            obtain rfl := Option.some.inj H
            go_enter Tryd.func51, Tryd.ntmps51
            go_wp2
            go_ret
            exact ⟨by first | rfl | (simp; done) | (simp [*]; done), by repeat (first | exact Drawn0.refl _ | apply Drawn0.step)⟩

/-! ### conf_date: function 32 -/
mutual
def conf_date.l0 : Nat → Int → Int → Option (Int × Int × Int)
  | 0, _, _ => none
  | k + 1, x0, x2 => (conf_before.f x2).bind fun t103 => ((conf_yearDays.f x2).bind fun t104 => (if x0 ≥ (wrap64 (t103 + t104)) then (conf_date.l0 k x0 (wrap64 (x2 + 1))) else ((conf_before.f x2).bind fun t105 => (conf_date.l1 k (wrap64 (x0 - t105)) x2 1))))
def conf_date.l1 : Nat → Int → Int → Int → Option (Int × Int × Int)
  | 0, _, _, _ => none
  | k + 1, x0, x2, x3 => (conf_monthDays.f x2 x3).bind fun t106 => (if x0 ≥ t106 then ((conf_monthDays.f x2 x3).bind fun t107 => (conf_date.l1 k (wrap64 (x0 - t107)) x2 (wrap64 (x3 + 1)))) else (some (x2, x3, wrap64 (x0 + 1))))
end
def conf_date.f (k : Nat) (a0 : Int) : Option (Int × Int × Int) := conf_date.l0 k a0 (wrap64 (1970 + (wrap64 (Int.tdiv a0 366))))
theorem conf_date.mono_l : ∀ k, (∀ y0 y1, LeO (conf_date.l0 k y0 y1) (conf_date.l0 (k + 1) y0 y1)) ∧ (∀ y0 y1 y2, LeO (conf_date.l1 k y0 y1 y2) (conf_date.l1 (k + 1) y0 y1 y2))
  | 0 => ⟨fun _ _ r h => by simp [conf_date.l0] at h, fun _ _ _ r h => by simp [conf_date.l1] at h⟩
  | k + 1 => by
    obtain ⟨ih0, ih1⟩ := conf_date.mono_l k
    refine ⟨?_, ?_⟩
    · intro y0 y1
      unfold conf_date.l0
      repeat' first
      | (with_reducible exact ih0 _ _)
      | (with_reducible exact ih1 _ _ _)
      | (with_reducible exact LeO.refl _)
      | (with_reducible exact LeO.none _)
      | (with_reducible refine LeO.ite ?_ ?_)
      | (with_reducible refine LeO.bind ?_ (fun _ => ?_))
      | exact ih0 _ _
      | exact ih1 _ _ _
      | exact LeO.none _
      | refine LeO.ite ?_ ?_
      | refine LeO.bind ?_ (fun _ => ?_)
    · intro y0 y1 y2
      unfold conf_date.l1
      repeat' first
      | (with_reducible exact ih0 _ _)
      | (with_reducible exact ih1 _ _ _)
      | (with_reducible exact LeO.refl _)
      | (with_reducible exact LeO.none _)
      | (with_reducible refine LeO.ite ?_ ?_)
      | (with_reducible refine LeO.bind ?_ (fun _ => ?_))
      | exact ih0 _ _
      | exact ih1 _ _ _
      | exact LeO.none _
      | refine LeO.ite ?_ ?_
      | refine LeO.bind ?_ (fun _ => ?_)
theorem conf_date.mono : ∀ a0 k, LeO (conf_date.f k a0) (conf_date.f (k + 1) a0) := by
  intro a0 k
  obtain ⟨ih0, ih1⟩ := conf_date.mono_l k
  unfold conf_date.f
  repeat' first
      | (with_reducible exact ih0 _ _)
      | (with_reducible exact ih1 _ _ _)
      | (with_reducible exact LeO.refl _)
      | (with_reducible exact LeO.none _)
      | (with_reducible refine LeO.ite ?_ ?_)
      | (with_reducible refine LeO.bind ?_ (fun _ => ?_))
      | exact ih0 _ _
      | exact ih1 _ _ _
      | exact LeO.none _
      | refine LeO.ite ?_ ?_
      | refine LeO.bind ?_ (fun _ => ?_)
set_option maxHeartbeats 8000000 in
set_option maxRecDepth 100000 in
theorem conf_date.calls (k : Nat) (a0 : Int) (r1 : Int) (r2 : Int) (r3 : Int) (w : World) (h : conf_date.f k a0 = some (r1, r2, r3)) :
    Calls Tryd.prog 32 #[.int .i64 a0] w fun e w' => e = .returned (.tuple #[.int .i64 r1, .int .i64 r2, .int .i64 r3]) ∧ Drawn0 w w' := by
  have H : (conf_date.l0 k a0 (wrap64 (1970 + (wrap64 (Int.tdiv a0 366))))) = some (r1, r2, r3) := h
  clear h
  have H' := Aside0.mk H
  clear H
  go_enter Tryd.func32, Tryd.ntmps32
  go_wp2
  go_loopg [2] k (fun kq v2 w' => ∃ (x2_1 : Int), v2 = .int .i64 x2_1 ∧ Aside0 (conf_date.l0 kq a0 x2_1 = some (r1, r2, r3)) ∧ Aside0 (kq ≤ k) ∧ Drawn0 w w')
  case atStart => exact ⟨(wrap64 (1970 + (wrap64 (Int.tdiv a0 366)))), (by first | rfl | (simp; done) | (simp [*]; done)), H', ⟨Nat.le_refl _⟩, by repeat (first | exact Drawn0.refl _ | apply Drawn0.step)⟩
  case round =>
    clear H'
    obtain ⟨x2_1, rfl, HA, HK1, ⟨m1, rfl⟩⟩ := hrel
    cases gk with
    | zero => exact absurd HA.out (by simp [conf_date.l0])
    | succ k1 =>
      have H := HA.out
      clear HA
      simp only [conf_date.l0] at H
      replace H := Option.bind_eq_some_iff.mp H
      obtain ⟨t103, A20, H⟩ := H
      replace H : ((conf_yearDays.f x2_1).bind fun t104 => (if a0 ≥ (wrap64 (t103 + t104)) then (conf_date.l0 k1 a0 (wrap64 (x2_1 + 1))) else ((conf_before.f x2_1).bind fun t105 => (conf_date.l1 k1 (wrap64 (a0 - t105)) x2_1 1)))) = some (r1, r2, r3) := H
      have A2 := Aside0.mk A20
      clear A20
      replace H := Option.bind_eq_some_iff.mp H
      obtain ⟨t104, A30, H⟩ := H
      replace H : (if a0 ≥ (wrap64 (t103 + t104)) then (conf_date.l0 k1 a0 (wrap64 (x2_1 + 1))) else ((conf_before.f x2_1).bind fun t105 => (conf_date.l1 k1 (wrap64 (a0 - t105)) x2_1 1))) = some (r1, r2, r3) := H
      have A3 := Aside0.mk A30
      clear A30
      by_cases c4 : a0 ≥ (wrap64 (t103 + t104))
      · rw [if_pos c4] at H
        have c4b0 : decide ((wrap64 (t103 + t104)) ≤ a0) = true := decide_eq_true c4
        clear c4
        have H' := Aside0.mk H
        clear H
        go_wp2_with (first | ((with_reducible refine gate_callee (f := 49) rfl ?_); refine goesL_ (some 10) rfl rfl Tryd.func49 (by kernel_rfl) rfl #[.int .i64 x2_1] rfl (by (try simp only [List.map_toArray, List.map_cons, List.map_nil]); first | done | rfl | (simp only [List.length_drop, List.length_take]; rfl)) ?_; (with_reducible refine (conf_before.calls x2_1 t103 _ A2.out).mono ?_); rintro e w' ⟨rfl, ⟨nd, rfl⟩⟩; refine ⟨_, rfl, ?_⟩) | ((with_reducible refine gate_callee (f := 50) rfl ?_); refine goesL_ (some 12) rfl rfl Tryd.func50 (by kernel_rfl) rfl #[.int .i64 x2_1] rfl (by (try simp only [List.map_toArray, List.map_cons, List.map_nil]); first | done | rfl | (simp only [List.length_drop, List.length_take]; rfl)) ?_; (with_reducible refine (conf_yearDays.calls x2_1 t104 _ A3.out).mono ?_); rintro e w' ⟨rfl, ⟨nd, rfl⟩⟩; refine ⟨_, rfl, ?_⟩))
        go_roundg k1
        case measure => have := HK1.out; omega
        case rel => exact ⟨(wrap64 (x2_1 + 1)), (by first | rfl | (simp; done) | (simp [*]; done)), H', ⟨by have := HK1.out; omega⟩, by repeat (first | exact Drawn0.refl _ | apply Drawn0.step)⟩
      · rw [if_neg c4] at H
        have c4b0 : decide ((wrap64 (t103 + t104)) ≤ a0) = false := decide_eq_false c4
        clear c4
        replace H := Option.bind_eq_some_iff.mp H
        obtain ⟨t105, A50, H⟩ := H
        replace H : (conf_date.l1 k1 (wrap64 (a0 - t105)) x2_1 1) = some (r1, r2, r3) := H
        have A5 := Aside0.mk A50
        clear A50
        have H' := Aside0.mk H
        clear H
        go_wp2_with (first | ((with_reducible refine gate_callee (f := 49) rfl ?_); refine goesL_ (some 10) rfl rfl Tryd.func49 (by kernel_rfl) rfl #[.int .i64 x2_1] rfl (by (try simp only [List.map_toArray, List.map_cons, List.map_nil]); first | done | rfl | (simp only [List.length_drop, List.length_take]; rfl)) ?_; (with_reducible refine (conf_before.calls x2_1 t103 _ A2.out).mono ?_); rintro e w' ⟨rfl, ⟨nd, rfl⟩⟩; refine ⟨_, rfl, ?_⟩) | ((with_reducible refine gate_callee (f := 50) rfl ?_); refine goesL_ (some 12) rfl rfl Tryd.func50 (by kernel_rfl) rfl #[.int .i64 x2_1] rfl (by (try simp only [List.map_toArray, List.map_cons, List.map_nil]); first | done | rfl | (simp only [List.length_drop, List.length_take]; rfl)) ?_; (with_reducible refine (conf_yearDays.calls x2_1 t104 _ A3.out).mono ?_); rintro e w' ⟨rfl, ⟨nd, rfl⟩⟩; refine ⟨_, rfl, ?_⟩) | ((with_reducible refine gate_callee (f := 49) rfl ?_); refine goesL_ (some 19) rfl rfl Tryd.func49 (by kernel_rfl) rfl #[.int .i64 x2_1] rfl (by (try simp only [List.map_toArray, List.map_cons, List.map_nil]); first | done | rfl | (simp only [List.length_drop, List.length_take]; rfl)) ?_; (with_reducible refine (conf_before.calls x2_1 t105 _ A5.out).mono ?_); rintro e w' ⟨rfl, ⟨nd, rfl⟩⟩; refine ⟨_, rfl, ?_⟩))
        go_loopg [0, 3] k1 (fun kq v0 v3 w' => ∃ (x0_2 : Int) (x3_2 : Int), v0 = .int .i64 x0_2 ∧ v3 = .int .i64 x3_2 ∧ Aside0 (conf_date.l1 kq x0_2 x2_1 x3_2 = some (r1, r2, r3)) ∧ Aside0 (kq ≤ k1) ∧ Drawn0 w w')
        case atStart => exact ⟨(wrap64 (a0 - t105)), (1), (by first | rfl | (simp; done) | (simp [*]; done)), (by first | rfl | (simp; done) | (simp [*]; done)), H', ⟨Nat.le_refl _⟩, by repeat (first | exact Drawn0.refl _ | apply Drawn0.step)⟩
        case round =>
          clear H'
          try clear p2
          try clear c3
          try clear c4
          try clear c4b0
          try clear c5
          obtain ⟨x0_2, x3_2, rfl, rfl, HA, HK2, ⟨m2, rfl⟩⟩ := hrel
          cases gk with
          | zero => exact absurd HA.out (by simp [conf_date.l1])
          | succ k2 =>
            have H := HA.out
            clear HA
            simp only [conf_date.l1] at H
            replace H := Option.bind_eq_some_iff.mp H
            obtain ⟨t106, A60, H⟩ := H
            replace H : (if x0_2 ≥ t106 then ((conf_monthDays.f x2_1 x3_2).bind fun t107 => (conf_date.l1 k2 (wrap64 (x0_2 - t107)) x2_1 (wrap64 (x3_2 + 1)))) else (some (x2_1, x3_2, wrap64 (x0_2 + 1)))) = some (r1, r2, r3) := H
            have A6 := Aside0.mk A60
            clear A60
            by_cases c7 : x0_2 ≥ t106
            · rw [if_pos c7] at H
              have c7b0 : decide (t106 ≤ x0_2) = true := decide_eq_true c7
              clear c7
              replace H := Option.bind_eq_some_iff.mp H
              obtain ⟨t107, A80, H⟩ := H
              replace H : (conf_date.l1 k2 (wrap64 (x0_2 - t107)) x2_1 (wrap64 (x3_2 + 1))) = some (r1, r2, r3) := H
              have A8 := Aside0.mk A80
              clear A80
              have H' := Aside0.mk H
              clear H
              go_wp2_with (first | ((with_reducible refine gate_callee (f := 51) rfl ?_); refine goesL_ (some 24) rfl rfl Tryd.func51 (by kernel_rfl) rfl #[.int .i64 x2_1, .int .i64 x3_2] rfl (by (try simp only [List.map_toArray, List.map_cons, List.map_nil]); first | done | rfl | (simp only [List.length_drop, List.length_take]; rfl)) ?_; (with_reducible refine (conf_monthDays.calls x2_1 x3_2 t106 _ A6.out).mono ?_); rintro e w' ⟨rfl, ⟨nd, rfl⟩⟩; refine ⟨_, rfl, ?_⟩) | ((with_reducible refine gate_callee (f := 51) rfl ?_); refine goesL_ (some 31) rfl rfl Tryd.func51 (by kernel_rfl) rfl #[.int .i64 x2_1, .int .i64 x3_2] rfl (by (try simp only [List.map_toArray, List.map_cons, List.map_nil]); first | done | rfl | (simp only [List.length_drop, List.length_take]; rfl)) ?_; (with_reducible refine (conf_monthDays.calls x2_1 x3_2 t107 _ A8.out).mono ?_); rintro e w' ⟨rfl, ⟨nd, rfl⟩⟩; refine ⟨_, rfl, ?_⟩))
              go_roundg k2
              case measure => have := HK1.out; have := HK2.out; omega
              case rel => exact ⟨(wrap64 (x0_2 - t107)), (wrap64 (x3_2 + 1)), (by first | rfl | (simp; done) | (simp [*]; done)), (by first | rfl | (simp; done) | (simp [*]; done)), H', ⟨by have := HK1.out; have := HK2.out; omega⟩, by repeat (first | exact Drawn0.refl _ | apply Drawn0.step)⟩
            · rw [if_neg c7] at H
              have c7b0 : decide (t106 ≤ x0_2) = false := decide_eq_false c7
              clear c7
              simp only [Option.some.injEq, Prod.mk.injEq] at H
              obtain ⟨rfl, rfl, rfl⟩ := H
              go_wp2_with (first | ((with_reducible refine gate_callee (f := 51) rfl ?_); refine goesL_ (some 24) rfl rfl Tryd.func51 (by kernel_rfl) rfl #[.int .i64 x2_1, .int .i64 x3_2] rfl (by (try simp only [List.map_toArray, List.map_cons, List.map_nil]); first | done | rfl | (simp only [List.length_drop, List.length_take]; rfl)) ?_; (with_reducible refine (conf_monthDays.calls x2_1 x3_2 t106 _ A6.out).mono ?_); rintro e w' ⟨rfl, ⟨nd, rfl⟩⟩; refine ⟨_, rfl, ?_⟩))
              go_ret3
              exact ⟨by first | rfl | (simp; done) | (simp [*]; done), by repeat (first | exact Drawn0.refl _ | apply Drawn0.step)⟩

/-! ### conf_digits: function 48 -/
def conf_digits.l0 : Nat → Int → List Int → Int → Option (ByteArray)
  | 0, _, _, _ => none
  | k + 1, x0, x5, x6 => if x6 ≥ 0 then (if 0 ≤ x6 then (if x6 < (x5.length : Int) then (conf_digits.l0 k (wrap64 (Int.tdiv x0 10)) (x5.set (x6 : Int).toNat ((wrap64 (48 + (Int.tmod x0 10))) % 256)) (wrap64 (x6 - 1))) else (none)) else (none)) else (some (strOfNums x5))
def conf_digits.f (k : Nat) (a0 : Int) (a1 : Int) : Option (ByteArray) := if 0 ≤ a1 then (if (a1 : Int).toNat ≤ 281474976710656 then (conf_digits.l0 k a0 (List.replicate (a1 : Int).toNat 0) (wrap64 (a1 - 1))) else (none)) else (none)
theorem conf_digits.mono_l : ∀ k, (∀ y0 y1 y2, LeO (conf_digits.l0 k y0 y1 y2) (conf_digits.l0 (k + 1) y0 y1 y2))
  | 0 => fun _ _ _ r h => by simp [conf_digits.l0] at h
  | k + 1 => by
    have ih0 := conf_digits.mono_l k
    · intro y0 y1 y2
      unfold conf_digits.l0
      repeat' first
      | (with_reducible exact ih0 _ _ _)
      | (with_reducible exact LeO.refl _)
      | (with_reducible exact LeO.none _)
      | (with_reducible refine LeO.ite ?_ ?_)
      | (with_reducible refine LeO.bind ?_ (fun _ => ?_))
      | exact ih0 _ _ _
      | exact LeO.none _
      | refine LeO.ite ?_ ?_
      | refine LeO.bind ?_ (fun _ => ?_)
theorem conf_digits.mono : ∀ a0 a1 k, LeO (conf_digits.f k a0 a1) (conf_digits.f (k + 1) a0 a1) := by
  intro a0 a1 k
  have ih0 := conf_digits.mono_l k
  unfold conf_digits.f
  repeat' first
      | (with_reducible exact ih0 _ _ _)
      | (with_reducible exact LeO.refl _)
      | (with_reducible exact LeO.none _)
      | (with_reducible refine LeO.ite ?_ ?_)
      | (with_reducible refine LeO.bind ?_ (fun _ => ?_))
      | exact ih0 _ _ _
      | exact LeO.none _
      | refine LeO.ite ?_ ?_
      | refine LeO.bind ?_ (fun _ => ?_)
set_option maxHeartbeats 8000000 in
set_option maxRecDepth 100000 in
theorem conf_digits.calls (k : Nat) (a0 : Int) (a1 : Int) (r : ByteArray) (w : World) (h : conf_digits.f k a0 a1 = some r) :
    Calls Tryd.prog 48 #[.int .i64 a0, .int .i64 a1] w fun e w' => e = .returned (.string r) ∧ Below w.heap.size w w' := by
  have HB := Aside0.mk (Below.refl w.heap.size w)
  have H : (if 0 ≤ a1 then (if (a1 : Int).toNat ≤ 281474976710656 then (conf_digits.l0 k a0 (List.replicate (a1 : Int).toNat 0) (wrap64 (a1 - 1))) else (none)) else (none)) = some r := h
  clear h
  by_cases c3 : 0 ≤ a1
  · rw [if_pos c3] at H
    have c3b0 := eq_true c3
    have c3b1 : decide (0 ≤ a1) = true := decide_eq_true c3
    clear c3
    by_cases c4 : (a1 : Int).toNat ≤ 281474976710656
    · rw [if_pos c4] at H
      have c4b0 := eq_true c4
      have c4b1 : decide ((a1 : Int).toNat ≤ 281474976710656) = true := decide_eq_true c4
      clear c4
      obtain ⟨y108, hy108⟩ : ∃ y_ : List Int, y_ = (List.replicate (a1 : Int).toNat 0) := ⟨_, rfl⟩
      replace H : (conf_digits.l0 k a0 y108 (wrap64 (a1 - 1))) = some r := by first | (rw [hy108]; with_reducible exact H) | (have H2_ := (Option.bind_some _ _).symm.trans H; rw [hy108]; with_reducible exact H2_) | (have H2_ := (Option.bind_some _ _).symm.trans H; with_reducible exact H2_) | with_reducible exact H | (rw [hy108]; exact H) | exact H
      have Ny108 := Aside0.mk hy108
      clear hy108
      have H' := Aside0.mk H
      clear H
      go_enter Tryd.func48, Tryd.ntmps48
      go_wp2_with (first | ((with_reducible refine gate_dst (N := 8) rfl ?_); refine Kd.R_make (Kd.int .u8) _ 5 rfl (N := 8) rfl 120 _ _ rfl a1 rfl rfl Tryd.underlying120 (.int .u8 0) 1 info5 rfl (by decide) (by omega) 0 (ok := fun _ => True) (okp := fun _ => True) rfl (fun _ hk => hk) trivial (of_decide_eq_true (by first | (with_reducible assumption) | assumption)) (Nat.le_trans (Nat.mul_le_mul_right _ (of_decide_eq_true (by first | (with_reducible assumption) | assumption) : a1.toNat ≤ 281474976710656)) (by omega)) (Below.refl _ _) (Nat.le_refl _) ?_; intro v109 w5 ho6 hb hg_ hnew_; clear hg_ hnew_; (first | rw [← Ny108.out] at ho6 | (simp only [Int.reduceToNat] at ho6; rw [← Ny108.out] at ho6)); have n0_ := Aside0.mk (Kd.R_lower ho6 (below_size (by repeat (first | (with_reducible first | exact HB.out | apply below_alloc | apply pw_below_drewN | apply below_drew1) | exact HB.out)))); have n1_ := Aside0.mk (below_step (by repeat (first | (with_reducible first | exact HB.out | apply below_alloc | apply pw_below_drewN | apply below_drew1) | exact HB.out)) hb); clear HB; have HO110 := n0_; have HB := n1_; clear n0_ n1_; clear hb ho6))
      go_loopg [0, 6] k (fun kq v0 v6 w' => ∃ (x0_1 : Int) (x5_1 : List Int) (x6_1 : Int), v0 = .int .i64 x0_1 ∧ v6 = .int .i64 x6_1 ∧ Aside0 (conf_digits.l0 kq x0_1 x5_1 x6_1 = some r) ∧ Aside0 (kq ≤ k) ∧ Aside0 (Kd.R (Kd.int .u8) 5 w' w.heap.size (fun _ => True) v109 x5_1) ∧ Aside0 (Below w.heap.size w w'))
      case atStart => exact ⟨(a0), (y108), (wrap64 (a1 - 1)), (by first | rfl | (simp; done) | (simp [*]; done)), (by first | rfl | (simp; done) | (simp [*]; done)), H', ⟨Nat.le_refl _⟩, ⟨by (with_reducible repeat (first | apply Kd.R_alloc | apply Kd.R_drewN | apply Kd.R_drew)); exact HO110.out⟩, ⟨by repeat (first | (with_reducible first | exact HB.out | apply below_alloc | apply pw_below_drewN | apply below_drew1) | exact HB.out)⟩⟩
      case round =>
        clear H'
        try clear p2
        try clear c3
        try clear c3b0
        try clear c3b1
        try clear c4
        try clear c4b0
        try clear c4b1
        try clear p6
        obtain ⟨x0_1, x5_1, x6_1, rfl, rfl, HA, HK1, HO_5, HB⟩ := hrel
        cases gk with
        | zero => exact absurd HA.out (by simp [conf_digits.l0])
        | succ k1 =>
          have H := HA.out
          clear HA
          simp only [conf_digits.l0] at H
          by_cases c7 : x6_1 ≥ 0
          · rw [if_pos c7] at H
            have c7b0 : decide (0 ≤ x6_1) = true := decide_eq_true c7
            clear c7
            by_cases c8 : 0 ≤ x6_1
            · rw [if_pos c8] at H
              have c8b0 : decide (0 ≤ x6_1) = true := decide_eq_true c8
              clear c8
              by_cases c9 : x6_1 < (x5_1.length : Int)
              · rw [if_pos c9] at H
                have c9b0 : decide (x6_1 < (x5_1.length : Int)) = true := decide_eq_true c9
                clear c9
                obtain ⟨y111, hy111⟩ : ∃ y_ : List Int, y_ = (x5_1.set (x6_1 : Int).toNat ((wrap64 (48 + (Int.tmod x0_1 10))) % 256)) := ⟨_, rfl⟩
                replace H : (conf_digits.l0 k1 (wrap64 (Int.tdiv x0_1 10)) y111 (wrap64 (x6_1 - 1))) = some r := by first | (rw [hy111]; with_reducible exact H) | (have H2_ := (Option.bind_some _ _).symm.trans H; rw [hy111]; with_reducible exact H2_) | (have H2_ := (Option.bind_some _ _).symm.trans H; with_reducible exact H2_) | with_reducible exact H | (rw [hy111]; exact H) | exact H
                have Ny111 := Aside0.mk hy111
                clear hy111
                have H' := Aside0.mk H
                clear H
                have p10 : 0 ≤ (x6_1 : Int) := of_decide_eq_true (by first | (with_reducible assumption) | assumption)
                have q10 : (x6_1 : Int) < ((x5_1.length : Int) : Int) := of_decide_eq_true (by first | (with_reducible assumption) | assumption)
                obtain ⟨go10, co10, eo10, gb10, gl10, cl10, HG10⟩ := Kd.R_form HO_5.out (by omega)
                (first | cases eo10 | (injection eo10 with ea_ en_ ec_; (first | subst ea_ | (injection ea_ with ea_; subst ea_)); subst ec_; clear en_))
                have GB10 := Aside0.mk gb10
                have GG10 := Aside0.mk HG10
                clear gb10 gl10 HG10
                obtain ⟨hx10_0, hf10_0⟩ := Kd.R_celln 0 HO_5.out (x6_1 : Int) p10 q10
                replace p10 := eq_true p10
                replace q10 := eq_true q10
                have HP11 := Kd.R_putg HO_5.out (x6_1 : Int) ((wrap64 (48 + (Int.tmod x0_1 10))) % 256)
                go_wp2_with (first | ((with_reducible refine gate_store (t := 5) (p := 21) rfl ?_); refine store_event (t := 5) (p := 21) (v := ?vo_w12) (w1 := (wr.setCell ⟨go10, (x6_1 : Int).toNat, none⟩ (.int .u8 ((wrap64 (48 + (Int.tmod x0_1 10))) % 256)))) ?hg ?ho ?hn ?hr ?_; (case ho => rfl); (case hg => rfl); (case hn => rfl); (case hr => first | (go_simp; done) | (go_simp; rfl)); intro w12 hw; have hg : wr.grownBy w12 (some go10) := (by rw [hw]; exact HP11.2); have hp_ : Kd.R (Kd.int .u8) 5 w12 w.heap.size (fun _ => True) (.slice (some ⟨go10, 0, none⟩) x5_1.length co10) y111 := (by rw [hw, Ny111.out]; exact HP11.1); clear HP11; have n0_ := Aside0.mk (hp_); have n1_ := Aside0.mk ((by rw [hw]; exact below_set (HB.out) GB10.out : Below w.heap.size w w12)); clear HO_5; clear HB; have HO_5 := n0_; have HB := n1_; clear n0_ n1_; clear hg hw hp_))
                go_roundg k1
                case measure => have := HK1.out; omega
                case rel => exact ⟨(wrap64 (Int.tdiv x0_1 10)), (y111), (wrap64 (x6_1 - 1)), (by first | rfl | (simp; done) | (simp [*]; done)), (by first | rfl | (simp; done) | (simp [*]; done)), H', ⟨by have := HK1.out; omega⟩, ⟨by (with_reducible repeat (first | apply Kd.R_alloc | apply Kd.R_drewN | apply Kd.R_drew)); exact HO_5.out⟩, ⟨by repeat (first | (with_reducible first | exact HB.out | apply below_alloc | apply pw_below_drewN | apply below_drew1) | exact HB.out)⟩⟩
              · rw [if_neg c9] at H
                exact absurd H (by simp)
            · rw [if_neg c8] at H
              exact absurd H (by simp)
          · rw [if_neg c7] at H
            have c7b0 : decide (0 ≤ x6_1) = false := decide_eq_false c7
            clear c7
            obtain rfl := Option.some.inj H
            have hcv13 := own_string (P := Tryd.prog) Tryd.underlying120 Tryd.underlying5 Tryd.underlying9 (Kd.own_of_R HO_5.out)
            go_wp2
            go_ret
            exact ⟨by first | rfl | (simp [errW_none, errW_some] <;> rfl) | (simp [*, errW_none, errW_some] <;> rfl), by repeat (first | (with_reducible first | exact HB.out | apply below_alloc | apply pw_below_drewN | apply below_drew1) | exact HB.out)⟩
    · rw [if_neg c4] at H
      exact absurd H (by simp)
  · rw [if_neg c3] at H
    exact absurd H (by simp)

/-! ### conf_dayString: function 30 -/
def conf_dayString.f (k : Nat) (a0 : Int) : Option ByteArray :=
  (conf_date.f k a0).bind fun b => (conf_digits.f k b.1 4).bind fun t1 => (conf_digits.f k b.2.1 2).bind fun t2 => (conf_digits.f k b.2.2 2).bind fun t3 =>
    if t1.size ≤ 100 ∧ t2.size ≤ 100 ∧ t3.size ≤ 100 then some ((((t1 ++ (⟨#[45]⟩ : ByteArray)) ++ t2) ++ (⟨#[45]⟩ : ByteArray)) ++ t3) else none
theorem conf_dayString.mono : ∀ a0 k, LeO (conf_dayString.f k a0) (conf_dayString.f (k + 1) a0) := by
  intro a0 k
  unfold conf_dayString.f
  refine LeO.bind (conf_date.mono _ _) (fun _ => ?_)
  refine LeO.bind (conf_digits.mono _ _ _) (fun _ => ?_)
  refine LeO.bind (conf_digits.mono _ _ _) (fun _ => ?_)
  exact LeO.bind (conf_digits.mono _ _ _) (fun _ => LeO.refl _)
set_option maxHeartbeats 2000000 in
set_option maxRecDepth 100000 in
theorem conf_dayString.calls (k : Nat) (a0 : Int) (r : ByteArray) (w : World) (h : conf_dayString.f k a0 = some r) :
    Calls Tryd.prog 30 #[.int .i64 a0] w fun e w' => e = .returned (.string r) ∧ Below w.heap.size w w' := by
  unfold conf_dayString.f at h
  obtain ⟨⟨y, m, d⟩, h0, h⟩ := Option.bind_eq_some_iff.1 h
  obtain ⟨t1, h1, h⟩ := Option.bind_eq_some_iff.1 h
  obtain ⟨t2, h2, h⟩ := Option.bind_eq_some_iff.1 h
  obtain ⟨t3, h3, h⟩ := Option.bind_eq_some_iff.1 h
  by_cases hs : t1.size ≤ 100 ∧ t2.size ≤ 100 ∧ t3.size ≤ 100
  case neg => rw [if_neg hs] at h; cases h
  rw [if_pos hs] at h
  injection h with h
  obtain ⟨s1, s2, s3⟩ := hs
  have H := Aside0.mk h
  have H0 := Aside0.mk h0
  have H1 := Aside0.mk h1
  have H2 := Aside0.mk h2
  have H3 := Aside0.mk h3
  clear h h0 h1 h2 h3
  go_enter Tryd.func30, Tryd.ntmps30
  go_wp2_with fail
  refine (conf_date.calls k a0 y m d _ H0.out).mono ?_
  rintro e w1 ⟨rfl, ⟨⟨nq, rfl⟩⟩⟩
  go_wp2_with fail
  refine (conf_digits.calls k y 4 t1 _ H1.out).mono ?_
  rintro e w1 ⟨rfl, hb1⟩
  go_wp2_with fail
  refine (conf_digits.calls k m 2 t2 _ H2.out).mono ?_
  rintro e w2 ⟨rfl, hb2⟩
  go_wp2_with fail
  refine (conf_digits.calls k d 2 t3 _ H3.out).mono ?_
  rintro e w3 ⟨rfl, hb3⟩
  have hb : Below w.heap.size w w1 := ⟨hb1.os, hb1.tape, hb1.output, hb1.size, hb1.block⟩
  have HB := Aside0.mk (below_then (below_then hb hb.size hb2) (Nat.le_trans hb.size hb2.size) hb3)
  clear hb hb1 hb2 hb3
  go_wp2_with fail
  go_ret
  exact ⟨by rw [H.out]; rfl, HB.out⟩

/-! ### conf_DayString: function 13 -/
def conf_DayString.f (k : Nat) (a0 : Int) : Option (ByteArray × Int) := (conf_badDay.f a0).bind fun t112 => (if t112 = true then (some ((⟨#[]⟩ : ByteArray), 2)) else ((conf_dayString.f k a0).bind fun t113 => (some (t113, 0))))
theorem conf_DayString.mono : ∀ a0 k, LeO (conf_DayString.f k a0) (conf_DayString.f (k + 1) a0) := by
  intro a0 k
  unfold conf_DayString.f
  repeat' first
      | (with_reducible exact conf_dayString.mono _ _)
      | (with_reducible exact LeO.refl _)
      | (with_reducible exact LeO.none _)
      | (with_reducible refine LeO.ite ?_ ?_)
      | (with_reducible refine LeO.bind ?_ (fun _ => ?_))
      | exact conf_dayString.mono _ _
      | exact LeO.none _
      | refine LeO.ite ?_ ?_
      | refine LeO.bind ?_ (fun _ => ?_)
set_option maxHeartbeats 8000000 in
set_option maxRecDepth 100000 in
theorem conf_DayString.calls (k : Nat) (a0 : Int) (r1 : ByteArray) (r2 : Int) (w : World) (h : conf_DayString.f k a0 = some (r1, r2)) :
    Calls Tryd.prog 13 #[.int .i64 a0] w fun e w' => e = .returned (.tuple #[.string r1, .int .i64 r2]) ∧ Below w.heap.size w w' := by
  have HB := Aside0.mk (Below.refl w.heap.size w)
  have H : ((conf_badDay.f a0).bind fun t112 => (if t112 = true then (some ((⟨#[]⟩ : ByteArray), 2)) else ((conf_dayString.f k a0).bind fun t113 => (some (t113, 0))))) = some (r1, r2) := h
  clear h
  replace H := Option.bind_eq_some_iff.mp H
  obtain ⟨t112, A20, H⟩ := H
  replace H : (if t112 = true then (some ((⟨#[]⟩ : ByteArray), 2)) else ((conf_dayString.f k a0).bind fun t113 => (some (t113, 0)))) = some (r1, r2) := H
  have A2 := Aside0.mk A20
  clear A20
  by_cases c3 : t112 = true
  · subst c3
    have H1 : (some ((⟨#[]⟩ : ByteArray), 2)) = some (r1, r2) := by rw [if_pos rfl] at H; exact H
    clear H
    have H := H1
    clear H1
    simp only [Option.some.injEq, Prod.mk.injEq] at H
    obtain ⟨rfl, rfl⟩ := H
    go_enter Tryd.func13, Tryd.ntmps13
    go_wp2_with (first | ((with_reducible refine gate_callee (f := 29) rfl ?_); refine goesL_ (some 5) rfl rfl Tryd.func29 (by kernel_rfl) rfl #[.int .i64 a0] rfl (by (try simp only [List.map_toArray, List.map_cons, List.map_nil]); first | done | rfl | (simp only [List.length_drop, List.length_take]; rfl)) ?_; (with_reducible refine (conf_badDay.calls a0 true _ A2.out).mono ?_); rintro e w' ⟨rfl, ⟨nd, rfl⟩⟩; refine ⟨_, rfl, ?_⟩))
    go_ret2
    exact ⟨by first | rfl | (simp [errW_none, errW_some] <;> rfl) | (simp [*, errW_none, errW_some] <;> rfl), by repeat (first | (with_reducible first | exact HB.out | apply below_alloc | apply pw_below_drewN | apply below_drew1) | exact HB.out)⟩
  · replace c3 := Bool.eq_false_iff.mpr c3
    subst c3
    have H1 : ((conf_dayString.f k a0).bind fun t113 => (some (t113, 0))) = some (r1, r2) := by rw [if_neg (show ¬ (false = true) by decide)] at H; exact H
    clear H
    have H := H1
    clear H1
    replace H := Option.bind_eq_some_iff.mp H
    obtain ⟨t113, A40, H⟩ := H
    replace H : (some (t113, 0)) = some (r1, r2) := H
    have A4 := Aside0.mk A40
    clear A40
    simp only [Option.some.injEq, Prod.mk.injEq] at H
    obtain ⟨rfl, rfl⟩ := H
    go_enter Tryd.func13, Tryd.ntmps13
    go_wp2_with (first | ((with_reducible refine gate_callee (f := 29) rfl ?_); refine goesL_ (some 5) rfl rfl Tryd.func29 (by kernel_rfl) rfl #[.int .i64 a0] rfl (by (try simp only [List.map_toArray, List.map_cons, List.map_nil]); first | done | rfl | (simp only [List.length_drop, List.length_take]; rfl)) ?_; (with_reducible refine (conf_badDay.calls a0 false _ A2.out).mono ?_); rintro e w' ⟨rfl, ⟨nd, rfl⟩⟩; refine ⟨_, rfl, ?_⟩) | ((with_reducible refine gate_callee (f := 30) rfl ?_); refine goesL_ (some 7) rfl rfl Tryd.func30 (by kernel_rfl) rfl #[.int .i64 a0] rfl (by (try simp only [List.map_toArray, List.map_cons, List.map_nil]); first | done | rfl | (simp only [List.length_drop, List.length_take]; rfl)) ?_; (with_reducible refine (conf_dayString.calls k a0 t113 _ A4.out).mono ?_); rintro e w5 ⟨rfl, hb⟩; refine ⟨_, rfl, ?_⟩; have n0_ := Aside0.mk (below_step (by repeat (first | (with_reducible first | exact HB.out | apply below_alloc | apply pw_below_drewN | apply below_drew1) | exact HB.out)) hb); clear HB; have HB := n0_; clear n0_; (try clear hb); (try clear hb2); (try clear hk); (try clear hi)))
    go_ret2
    exact ⟨by first | rfl | (simp [errW_none, errW_some] <;> rfl) | (simp [*, errW_none, errW_some] <;> rfl), by repeat (first | (with_reducible first | exact HB.out | apply below_alloc | apply pw_below_drewN | apply below_drew1) | exact HB.out)⟩

end Go.Proofs.YtnndipcggegclaaDoor.PDayRound
