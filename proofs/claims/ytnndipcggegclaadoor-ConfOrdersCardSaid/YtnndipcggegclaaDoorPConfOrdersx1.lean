-- Made for this claim by a program of this session (xprint.py over the kit's printing program); Lean checks it.
import Derived.Test.YtnndipcggegclaaDoorPConfOrdersx0
namespace Go.Proofs.YtnndipcggegclaaDoor.PConfOrders
open Go.RowKit Go.Proofs.YtnndipcggegclaaDoorW.PrintWords Go.Proofs.YtnndipcggegclaaDoorW.PrintLast Go.Proofs.YtnndipcggegclaaDoorW.PrintMore
attribute [local go_sem] max2_int min2_int max_two min_two max_three min_three max_four min_four   -- for this text's walks alone
set_option linter.unusedVariables false
set_option linter.unusedSimpArgs false

/-! ### mastkeep2_awakeConf: function 11 -/
theorem ac_heap_set {w : World} {g i : Nat} {t : TypeId} {cs : Array Value} {u : Value} (h : w.heap[g]? = some (.cells cs t (0, 0))) : (w.setCell ⟨g, i, none⟩ u).heap[g]? = some (.cells (cs.setIfInBounds i u) t (0, 0)) := by
  simp [World.setCell, Array.getElem?_modify, h]
set_option maxHeartbeats 1000000 in
set_option maxRecDepth 100000 in
theorem ac_next_any (g B : Nat) (w0 w : World) (hg : w.heap[g]? = some (.cells #[.string ⟨#[61]⟩, .int .i64 0, .int .i64 0, .int .i64 0, .string ⟨#[]⟩, .int .i64 0, .int .i64 0, .int .i64 1] 96 (0, 0))) (hB : Below B w0 w) (hBg : B ≤ g) :
    Calls Tryd.prog 44 #[.pointer (some ⟨g, 0, none⟩), .bool false] w fun e w' => e = .returned (.tuple #[]) ∧
      w'.heap[g]? = some (.cells #[.string ⟨#[61]⟩, .int .i64 0, .int .i64 0, .int .i64 0, .string ⟨#[]⟩, .int .i64 0, .int .i64 8, .int .i64 1] 96 (0, 0)) ∧ Below B w0 w' := by
  have c0 : w.cell? ⟨g, 0, none⟩ = some (.string ⟨#[61]⟩) := by simp [World.cell?, hg]
  have c1 : w.cell? ⟨g, 1, none⟩ = some (.int .i64 0) := by simp [World.cell?, hg]
  have c5 : w.cell? ⟨g, 5, none⟩ = some (.int .i64 0) := by simp [World.cell?, hg]
  have c6 : w.cell? ⟨g, 6, none⟩ = some (.int .i64 0) := by simp [World.cell?, hg]
  have f5 : w.frozen? ⟨g, 5, none⟩ = false := by simp [World.frozen?, hg]
  have f6 : w.frozen? ⟨g, 6, none⟩ = false := by simp [World.frozen?, hg]
  have hb61 : ((⟨#[61]⟩ : ByteArray)[0]'(by decide)).toNat = 61 := rfl
  have hg' := Lib.hid hg
  have hB' := Lib.hid hB
  clear hg hB
  go_enter Tryd.func44, Tryd.ntmps44
  go_wp2
  go_loop [4] (fun c => c = .bool false) (fun _ => 0)
  case atStart => rfl
  case round =>
    subst hrel
    go_wp2
    repeat (go_quiet (fail); go_wp2_with (first | (go_at_call 93; refine (Shelf.strings_IndexByte _ _ _).mono ?_; rintro e w' ⟨rfl, rfl⟩) | go_in))
    go_end0
    go_wp2
    go_end0
    go_wp2
    refine bodyPost_ret (results_none rfl _ _ _) rfl ?_
    refine ⟨rfl, ac_heap_set (ac_heap_set hg'.out), ?_⟩
    repeat (first | exact hB'.out | apply pw_below_drewN | apply below_drew | refine Below.setCell ?_ hBg _)
set_option maxHeartbeats 2000000 in
set_option maxRecDepth 100000 in
theorem ac_entries_any (g : Nat) (w : World) (hg : w.heap[g]? = some (.cells #[.string ⟨#[61]⟩, .int .i64 0, .int .i64 0, .int .i64 0, .string ⟨#[]⟩, .int .i64 0, .int .i64 8, .int .i64 1] 96 (0, 0))) :
    Calls Tryd.prog 45 #[.pointer (some ⟨g, 0, none⟩), .int .i64 0, .int .i64 1] w fun e w' => e = .returned (.agg #[.int .i64 6, .bool false, .int .i64 0, .string ⟨#[]⟩, .slice none 0 0, .slice none 0 0]) ∧ Below w.heap.size w w' := by
  have p6 : w.cell? ⟨g, 6, none⟩ = some (.int .i64 8) := by simp [World.cell?, hg]
  have hlt := lt_of_block hg
  clear hg
  go_enter Tryd.func45, Tryd.ntmps45
  go_wp2_with fail
  go_loop [13] (fun v => True) (fun _ => 0)
  case atStart => trivial
  case round =>
    clear hrel
    go_wp2_with fail
    refine bodyPost_ret (v := .agg #[.int .i64 6, .bool false, .int .i64 0, .string ⟨#[]⟩, .slice none 0 0, .slice none 0 0]) (by simp [results, Tryd.results45, go_sem]) rfl ⟨rfl, ?_⟩
    exact below_alloc (below_alloc (Below.refl _ _) _) _
set_option maxHeartbeats 2000000 in
set_option maxRecDepth 100000 in
theorem ac_position_any (w : World) :
    Calls Tryd.prog 46 #[.string ⟨#[61]⟩, .int .i64 0] w fun e w' => e = .returned (.agg #[.int .i64 1, .int .i64 1]) ∧ Below w.heap.size w w' := by
  go_enter Tryd.func46, Tryd.ntmps46
  go_wp2_with (first | (go_at_call 67; refine (Shelf.strings_Count_one _ _ _).mono ?_; rintro e w' ⟨rfl, rfl⟩) | go_in)
  go_loop [5] (fun v => v = .int .i64 (-1)) (fun _ => 0)
  case atStart => rfl
  case round =>
    subst hrel
    have hc : Lib.countByte [] 10 = 0 := rfl
    have hw : wrap64 (1 + 0) = 1 := by unfold wrap64; omega
    have hw2 : wrap64 1 = 1 := by unfold wrap64; omega
    go_wp2
    refine bodyPost_ret (v := .agg #[.int .i64 1, .int .i64 1]) (by simp [results, Tryd.results46, go_sem]) rfl ⟨rfl, ?_⟩
    repeat (first | exact Below.refl _ _ | apply below_alloc | refine Below.setCell ?_ (Nat.le_refl _) _)
theorem ac_after_pos {n : Nat} {w w5 w3 : World} (hz : n + 2 < w5.heap.size) (hn : n = w.heap.size) (s6 : w5.cell? ⟨n + 1 + 1, 6, none⟩ = some (.int .i64 8))
    (hA : w5.heap[n]? = some (.cells #[.int .i64 0, .bool false, .int .i64 0, .string ⟨#[]⟩, .slice none 0 0, .slice none 0 0] 37 (0, 0))) (hP : w5.heap[n + 1]? = some (.cells #[.int .i64 0, .int .i64 0] 65 (0, 0)))
    (hb5 : Below w.heap.size w w5) (hb3' : Below w5.drew.heap.size w5.drew w3) :
    w3.cell? ⟨n + 1 + 1, 6, none⟩ = some (.int .i64 8) ∧ Hid (Below w.heap.size w w3) ∧ n + 2 < w3.heap.size ∧ Hid (w3.heap[n]? = some (.cells #[.int .i64 0, .bool false, .int .i64 0, .string ⟨#[]⟩, .slice none 0 0, .slice none 0 0] 37 (0, 0))) ∧ Hid (w3.heap[n + 1]? = some (.cells #[.int .i64 0, .int .i64 0] 65 (0, 0))) ∧ w3.cell? ⟨n, 0, none⟩ = some (.int .i64 0) ∧ w3.cell? ⟨n, 1, none⟩ = some (.bool false) ∧ w3.cell? ⟨n, 2, none⟩ = some (.int .i64 0) ∧ w3.cell? ⟨n, 3, none⟩ = some (.string ⟨#[]⟩) ∧ w3.cell? ⟨n, 4, none⟩ = some (.slice none 0 0) ∧ w3.cell? ⟨n, 5, none⟩ = some (.slice none 0 0) ∧ w3.frozen? ⟨n, 0, none⟩ = false ∧ w3.frozen? ⟨n, 1, none⟩ = false ∧ w3.frozen? ⟨n, 2, none⟩ = false ∧ w3.frozen? ⟨n, 3, none⟩ = false ∧ w3.frozen? ⟨n, 4, none⟩ = false ∧ w3.frozen? ⟨n, 5, none⟩ = false ∧ w3.cell? ⟨n + 1, 0, none⟩ = some (.int .i64 0) ∧ w3.cell? ⟨n + 1, 1, none⟩ = some (.int .i64 0) ∧ w3.frozen? ⟨n + 1, 0, none⟩ = false ∧ w3.frozen? ⟨n + 1, 1, none⟩ = false := by
  have hb3 : Below w5.heap.size w5 w3 := ⟨hb3'.os, hb3'.tape, hb3'.output, hb3'.size, hb3'.block⟩
  have hA3 := (hb3.block n (by omega)).trans hA
  have hP3 := (hb3.block (n + 1) (by omega)).trans hP
  refine ⟨(hb3.cell (p := ⟨n + 1 + 1, 6, none⟩) (by show n + 1 + 1 < _; omega)).trans s6, below_then hb5 (by omega) hb3, Nat.lt_of_lt_of_le hz hb3.size, hA3, hP3, ?_⟩
  refine ⟨by simp [World.cell?, hA3], by simp [World.cell?, hA3], by simp [World.cell?, hA3], by simp [World.cell?, hA3], by simp [World.cell?, hA3], by simp [World.cell?, hA3], by simp [World.frozen?, hA3], by simp [World.frozen?, hA3], by simp [World.frozen?, hA3], by simp [World.frozen?, hA3], by simp [World.frozen?, hA3], by simp [World.frozen?, hA3], by simp [World.cell?, hP3], by simp [World.cell?, hP3], by simp [World.frozen?, hP3], by simp [World.frozen?, hP3]⟩
theorem ac_res25 {W : World} {n : Nat} {tmps : Array Value} (h2 : tmps.getD 2 undef = .pointer (some ⟨n, 0, none⟩)) (h3 : tmps.getD 3 undef = .pointer (some ⟨n + 1, 0, none⟩)) (h4 : tmps.getD 4 undef = .int .i64 8)
    (hA : W.heap[n]? = some (.cells #[.int .i64 0, .bool false, .int .i64 0, .string ⟨#[]⟩, .slice none 0 0, .slice none 0 0] 37 (0, 0))) (hP : W.heap[n + 1]? = some (.cells #[.int .i64 1, .int .i64 1] 65 (0, 0))) :
    (results Tryd.f25 tmps).run Tryd.prog W = .ok (.tuple #[.agg #[.int .i64 0, .bool false, .int .i64 0, .string ⟨#[]⟩, .slice none 0 0, .slice none 0 0], .agg #[.int .i64 1, .int .i64 1], .int .i64 8]) W := by
  have h2' : tmps[2]?.getD undef = .pointer (some ⟨n, 0, none⟩) := by simpa using h2
  have h3' : tmps[3]?.getD undef = .pointer (some ⟨n + 1, 0, none⟩) := by simpa using h3
  have h4' : tmps[4]?.getD undef = .int .i64 8 := by simpa using h4
  have ra := run_loadVar_row (P := Tryd.prog) W n 37 37 _ (0, 0) _ hA Tryd.underlying37 rfl (by kernel_rfl)
  have rp := run_loadVar_row (P := Tryd.prog) W (n + 1) 65 65 _ (0, 0) _ hP Tryd.underlying65 rfl (by kernel_rfl)
  simp [results, Tryd.results25, h2', h3', h4', asAddr, ra, rp, Result.andThen]
theorem ac_bset {B b i : Nat} {w w' : World} {v : Value} (h : Below B w w') (hb : B ≤ b) : Below B w (w'.setCell ⟨b, i, none⟩ v) := Below.setCell h hb v
theorem ac_set_other {w : World} {g n i : Nat} {u : Value} (h : g ≠ n) : (w.setCell ⟨n, i, none⟩ u).heap[g]? = w.heap[g]? := by
  simp [World.setCell, Array.getElem?_modify, Ne.symm h]
set_option maxHeartbeats 1000000 in
theorem ac_fin1 {w w3 : World} {n : Nat} (hn : n = w.heap.size) (hb : Below w.heap.size w w3) (hA : w3.heap[n]? = some (.cells #[.int .i64 0, .bool false, .int .i64 0, .string ⟨#[]⟩, .slice none 0 0, .slice none 0 0] 37 (0, 0))) (hP : w3.heap[n + 1]? = some (.cells #[.int .i64 0, .int .i64 0] 65 (0, 0))) :
    (((((((((w3.setCell ⟨n, 0, none⟩ (.int .i64 0)).setCell ⟨n, 1, none⟩ (.bool false)).setCell ⟨n, 2, none⟩ (.int .i64 0)).setCell ⟨n, 3, none⟩ (.string ⟨#[]⟩)).setCell ⟨n, 4, none⟩ (.slice none 0 0)).setCell ⟨n, 5, none⟩ (.slice none 0 0)).setCell ⟨n + 1, 0, none⟩ (.int .i64 1)).setCell ⟨n + 1, 1, none⟩ (.int .i64 1))).heap[n]? = some (.cells #[.int .i64 0, .bool false, .int .i64 0, .string ⟨#[]⟩, .slice none 0 0, .slice none 0 0] 37 (0, 0)) ∧ (((((((((w3.setCell ⟨n, 0, none⟩ (.int .i64 0)).setCell ⟨n, 1, none⟩ (.bool false)).setCell ⟨n, 2, none⟩ (.int .i64 0)).setCell ⟨n, 3, none⟩ (.string ⟨#[]⟩)).setCell ⟨n, 4, none⟩ (.slice none 0 0)).setCell ⟨n, 5, none⟩ (.slice none 0 0)).setCell ⟨n + 1, 0, none⟩ (.int .i64 1)).setCell ⟨n + 1, 1, none⟩ (.int .i64 1))).heap[n + 1]? = some (.cells #[.int .i64 1, .int .i64 1] 65 (0, 0)) ∧ Below w.heap.size w (((((((((w3.setCell ⟨n, 0, none⟩ (.int .i64 0)).setCell ⟨n, 1, none⟩ (.bool false)).setCell ⟨n, 2, none⟩ (.int .i64 0)).setCell ⟨n, 3, none⟩ (.string ⟨#[]⟩)).setCell ⟨n, 4, none⟩ (.slice none 0 0)).setCell ⟨n, 5, none⟩ (.slice none 0 0)).setCell ⟨n + 1, 0, none⟩ (.int .i64 1)).setCell ⟨n + 1, 1, none⟩ (.int .i64 1))) := by
  refine ⟨?_, ?_, ?_⟩
  · have hk : n ≠ n + 1 := by omega
    rw [ac_set_other hk, ac_set_other hk, ac_heap_set (ac_heap_set (ac_heap_set (ac_heap_set (ac_heap_set (ac_heap_set hA)))))]; simp
  · have hk : n + 1 ≠ n := by omega
    have h' := hP
    rw [← ac_set_other (w := w3) (i := 0) (u := .int .i64 0) hk, ← ac_set_other (i := 1) (u := .bool false) hk, ← ac_set_other (i := 2) (u := .int .i64 0) hk, ← ac_set_other (i := 3) (u := .string ⟨#[]⟩) hk, ← ac_set_other (i := 4) (u := .slice none 0 0) hk, ← ac_set_other (i := 5) (u := .slice none 0 0) hk] at h'
    rw [ac_heap_set (ac_heap_set h')]; simp
  · have k0 : w.heap.size ≤ n := by omega
    have k1 : w.heap.size ≤ n + 1 := by omega
    exact (ac_bset (ac_bset (ac_bset (ac_bset (ac_bset (ac_bset (ac_bset (ac_bset hb k0) k0) k0) k0) k0) k0) k1) k1)
set_option maxHeartbeats 1000000 in
theorem ac_fin2 {w w3 : World} {n : Nat} (hn : n = w.heap.size) (hb : Below w.heap.size w w3) (hA : w3.heap[n]? = some (.cells #[.int .i64 0, .bool false, .int .i64 0, .string ⟨#[]⟩, .slice none 0 0, .slice none 0 0] 37 (0, 0))) (hP : w3.heap[n + 1]? = some (.cells #[.int .i64 0, .int .i64 0] 65 (0, 0))) :
    (((((((((w3.setCell ⟨n + 1, 0, none⟩ (.int .i64 1)).setCell ⟨n + 1, 1, none⟩ (.int .i64 1)).setCell ⟨n, 0, none⟩ (.int .i64 0)).setCell ⟨n, 1, none⟩ (.bool false)).setCell ⟨n, 2, none⟩ (.int .i64 0)).setCell ⟨n, 3, none⟩ (.string ⟨#[]⟩)).setCell ⟨n, 4, none⟩ (.slice none 0 0)).setCell ⟨n, 5, none⟩ (.slice none 0 0))).heap[n]? = some (.cells #[.int .i64 0, .bool false, .int .i64 0, .string ⟨#[]⟩, .slice none 0 0, .slice none 0 0] 37 (0, 0)) ∧ (((((((((w3.setCell ⟨n + 1, 0, none⟩ (.int .i64 1)).setCell ⟨n + 1, 1, none⟩ (.int .i64 1)).setCell ⟨n, 0, none⟩ (.int .i64 0)).setCell ⟨n, 1, none⟩ (.bool false)).setCell ⟨n, 2, none⟩ (.int .i64 0)).setCell ⟨n, 3, none⟩ (.string ⟨#[]⟩)).setCell ⟨n, 4, none⟩ (.slice none 0 0)).setCell ⟨n, 5, none⟩ (.slice none 0 0))).heap[n + 1]? = some (.cells #[.int .i64 1, .int .i64 1] 65 (0, 0)) ∧ Below w.heap.size w (((((((((w3.setCell ⟨n + 1, 0, none⟩ (.int .i64 1)).setCell ⟨n + 1, 1, none⟩ (.int .i64 1)).setCell ⟨n, 0, none⟩ (.int .i64 0)).setCell ⟨n, 1, none⟩ (.bool false)).setCell ⟨n, 2, none⟩ (.int .i64 0)).setCell ⟨n, 3, none⟩ (.string ⟨#[]⟩)).setCell ⟨n, 4, none⟩ (.slice none 0 0)).setCell ⟨n, 5, none⟩ (.slice none 0 0))) := by
  refine ⟨?_, ?_, ?_⟩
  · have hk : n ≠ n + 1 := by omega
    have h' := hA
    rw [← ac_set_other (w := w3) (i := 0) (u := .int .i64 1) hk, ← ac_set_other (i := 1) (u := .int .i64 1) hk] at h'
    rw [ac_heap_set (ac_heap_set (ac_heap_set (ac_heap_set (ac_heap_set (ac_heap_set h')))))]; simp
  · have hk : n + 1 ≠ n := by omega
    rw [ac_set_other hk, ac_set_other hk, ac_set_other hk, ac_set_other hk, ac_set_other hk, ac_set_other hk, ac_heap_set (ac_heap_set hP)]; simp
  · have k0 : w.heap.size ≤ n := by omega
    have k1 : w.heap.size ≤ n + 1 := by omega
    exact (ac_bset (ac_bset (ac_bset (ac_bset (ac_bset (ac_bset (ac_bset (ac_bset hb k1) k1) k0) k0) k0) k0) k0) k0)
set_option maxHeartbeats 16000000 in
set_option maxRecDepth 100000 in
theorem ac_parse_any (w : World) :
    Calls Tryd.prog 25 #[.string ⟨#[61]⟩] w fun e w' => e = .returned (.tuple #[.agg #[.int .i64 0, .bool false, .int .i64 0, .string ⟨#[]⟩, .slice none 0 0, .slice none 0 0], .agg #[.int .i64 1, .int .i64 1], .int .i64 8]) ∧ Below w.heap.size w w' := by
  go_enter Tryd.func25, Tryd.ntmps25
  go_wp2_with fail
  generalize hW : World.alloc _ _ = W
  have hg : W.heap[w.heap.size + 2]? = some (.cells #[.string ⟨#[61]⟩, .int .i64 0, .int .i64 0, .int .i64 0, .string ⟨#[]⟩, .int .i64 0, .int .i64 0, .int .i64 1] 96 (0, 0)) := by
    rw [← hW]
    simpa using heap_alloc_new ((w.alloc _).alloc _) _
  have hb : Below w.heap.size w W := by
    rw [← hW]
    exact below_alloc (below_alloc (below_alloc (Below.refl _ _) _) _) _
  have hz : W.heap.size = w.heap.size + 3 := by rw [← hW]; simp
  have hA : W.heap[w.heap.size]? = some (.cells #[.int .i64 0, .bool false, .int .i64 0, .string ⟨#[]⟩, .slice none 0 0, .slice none 0 0] 37 (0, 0)) := by
    rw [← hW]
    exact (Below.heap_alloc _ _ _ (by simp; omega)).trans ((Below.heap_alloc _ _ _ (by simp)).trans (heap_alloc_new w _))
  have hP : W.heap[w.heap.size + 1]? = some (.cells #[.int .i64 0, .int .i64 0] 65 (0, 0)) := by
    rw [← hW]
    refine (Below.heap_alloc _ _ _ (by simp)).trans ?_
    simpa using heap_alloc_new (w.alloc _) _
  clear hW
  refine (ac_next_any (w.heap.size + 1 + 1) (w.heap.size + 2) W W hg (Below.refl _ _) (by omega)).mono ?_
  rintro e w1 ⟨rfl, hg1, hb1⟩
  have hA1 := (hb1.block _ (by omega)).trans hA
  have hP1 := (hb1.block _ (by omega)).trans hP
  have hz1 : w.heap.size + 2 < w1.heap.size := lt_of_block hg1
  have hbw : Below w.heap.size w w1 := hb.trans (hb1.mono (by omega))
  have p0 : w1.cell? ⟨w.heap.size + 1 + 1, 0, none⟩ = some (.string ⟨#[61]⟩) := by simp [World.cell?, hg1]
  have p2 : w1.cell? ⟨w.heap.size + 1 + 1, 2, none⟩ = some (.int .i64 0) := by simp [World.cell?, hg1]
  have p5 : w1.cell? ⟨w.heap.size + 1 + 1, 5, none⟩ = some (.int .i64 0) := by simp [World.cell?, hg1]
  have p6 : w1.cell? ⟨w.heap.size + 1 + 1, 6, none⟩ = some (.int .i64 8) := by simp [World.cell?, hg1]
  have hg1' := Lib.hid hg1
  have hA1' := Lib.hid hA1
  have hP1' := Lib.hid hP1
  clear hg hb hz hA hP hb1 hg1 hA1 hP1
  go_wp2_with fail
  refine (ac_entries_any _ w1 hg1'.out).mono ?_
  rintro e w2 ⟨rfl, hb2⟩
  have q0 := (hb2.cell (p := ⟨w.heap.size + 1 + 1, 0, none⟩) (by omega)).trans p0
  have q5 := (hb2.cell (p := ⟨w.heap.size + 1 + 1, 5, none⟩) (by omega)).trans p5
  have q6 := (hb2.cell (p := ⟨w.heap.size + 1 + 1, 6, none⟩) (by omega)).trans p6
  have hz2 : w.heap.size + 2 < w2.heap.size := Nat.lt_of_lt_of_le hz1 hb2.size
  have hA2 := (hb2.block _ (by omega)).trans hA1'.out
  have hP2 := (hb2.block _ (by omega)).trans hP1'.out
  have hbw2 : Below w.heap.size w w2 := hbw.trans (hb2.mono (by omega))
  clear p0 p2 p5 p6 hbw hb2 hg1' hA1' hP1' hz1
  go_wp2_with fail
  generalize hW2 : World.alloc w2 _ = w5
  have hz5 : w2.heap.size < w5.heap.size := by rw [← hW2]; simp
  have s5 : w5.cell? ⟨w.heap.size + 1 + 1, 5, none⟩ = some (.int .i64 0) := by rw [← hW2]; exact (World.cell?_alloc_lt _ _ _ (by show _ < w2.heap.size; omega)).trans q5
  have s6 : w5.cell? ⟨w.heap.size + 1 + 1, 6, none⟩ = some (.int .i64 8) := by rw [← hW2]; exact (World.cell?_alloc_lt _ _ _ (by show _ < w2.heap.size; omega)).trans q6
  have hA5 : w5.heap[w.heap.size]? = some (.cells #[.int .i64 0, .bool false, .int .i64 0, .string ⟨#[]⟩, .slice none 0 0, .slice none 0 0] 37 (0, 0)) := by rw [← hW2]; exact (Below.heap_alloc _ _ _ (by omega)).trans hA2
  have hP5 : w5.heap[w.heap.size + 1]? = some (.cells #[.int .i64 0, .int .i64 0] 65 (0, 0)) := by rw [← hW2]; exact (Below.heap_alloc _ _ _ (by omega)).trans hP2
  have hb5 : Below w.heap.size w w5 := by rw [← hW2]; exact below_alloc hbw2 _
  have hA5' := Lib.hid hA5
  have hP5' := Lib.hid hP5
  clear hW2 hA2 hP2 hA5 hP5 hbw2 q0 q5 q6
  have hz6 : w.heap.size + 2 < w5.heap.size := by omega
  go_region_with (go_at_call 46; go_must (refine (ac_position_any _).mono ?_); rintro e w3 ⟨rfl, hb3⟩; obtain ⟨r6, hbw3, hz3, hA3, hP3, a0, a1, a2, a3, a4, a5, fa0, fa1, fa2, fa3, fa4, fa5, b0, b1, fb0, fb1⟩ := ac_after_pos hz6 rfl s6 hA5'.out hP5'.out hb5 hb3; clear hb3 s5 s6 hb5 hA5' hP5' hz6)
  all_goals
    go_wp2
    simp only [Act.put, List.getElem_toArray, List.getElem_cons_succ, List.getElem_cons_zero, List.setIfInBounds_toArray, List.set_cons_succ, List.set_cons_zero]
    first
    | (obtain ⟨rA, rP, rb⟩ := ac_fin1 (n := w.heap.size) rfl hbw3.out hA3.out hP3.out
       refine bodyPost_ret (v := .tuple #[.agg #[.int .i64 0, .bool false, .int .i64 0, .string ⟨#[]⟩, .slice none 0 0, .slice none 0 0], .agg #[.int .i64 1, .int .i64 1], .int .i64 8]) ?_ rfl ⟨rfl, rb⟩
       refine ac_res25 (n := w.heap.size) ?_ ?_ ?_ rA rP <;> rfl)
    | (obtain ⟨rA, rP, rb⟩ := ac_fin2 (n := w.heap.size) rfl hbw3.out hA3.out hP3.out
       refine bodyPost_ret (v := .tuple #[.agg #[.int .i64 0, .bool false, .int .i64 0, .string ⟨#[]⟩, .slice none 0 0, .slice none 0 0], .agg #[.int .i64 1, .int .i64 1], .int .i64 8]) ?_ rfl ⟨rfl, rb⟩
       refine ac_res25 (n := w.heap.size) ?_ ?_ ?_ rA rP <;> rfl)
def mastkeep2_awakeConf.f : Option Bool := some true
theorem mastkeep2_awakeConf.calls (r : Bool) (w : World) (h : mastkeep2_awakeConf.f = some r) :
    Calls Tryd.prog 11 #[] w fun e w' => e = .returned (.bool r) ∧ Below w.heap.size w w' := by
  obtain rfl := Option.some.inj h
  clear h
  go_enter Tryd.func11, Tryd.ntmps11
  go_wp2_with (go_at_call 25; refine (ac_parse_any _).mono ?_; rintro e w2 ⟨rfl, hb2⟩)
  go_ret
  exact ⟨rfl, below_alloc (below_alloc hb2 _) _⟩

/-! ### conf_sign: function 26 -/
def conf_sign.f (a0 : Int) (a1 : Int) : Option (Int) := if a0 < a1 then (some (-1)) else (if a0 > a1 then (some 1) else (some 0))
set_option maxHeartbeats 8000000 in
set_option maxRecDepth 100000 in
theorem conf_sign.calls (a0 : Int) (a1 : Int) (r : Int) (w : World) (h : conf_sign.f a0 a1 = some r) :
    Calls Tryd.prog 26 #[.int .i64 a0, .int .i64 a1] w fun e w' => e = .returned (.int .i64 r) ∧ Drawn0 w w' := by
  have H : (if a0 < a1 then (some (-1)) else (if a0 > a1 then (some 1) else (some 0))) = some r := h
  clear h
  by_cases c3 : a0 < a1
  · rw [if_pos c3] at H
    have c3b0 : decide (a0 < a1) = true := decide_eq_true c3
    clear c3
    obtain rfl := Option.some.inj H
    go_enter Tryd.func26, Tryd.ntmps26
    go_wp2
    go_ret
    exact ⟨by first | rfl | (simp; done) | (simp [*]; done), by repeat (first | exact Drawn0.refl _ | apply Drawn0.step)⟩
  · rw [if_neg c3] at H
    have c3b0 : decide (a0 < a1) = false := decide_eq_false c3
    clear c3
    by_cases c4 : a0 > a1
    · rw [if_pos c4] at H
      have c4b0 : decide (a1 < a0) = true := decide_eq_true c4
      clear c4
      obtain rfl := Option.some.inj H
      go_enter Tryd.func26, Tryd.ntmps26
      go_wp2
      go_ret
      exact ⟨by first | rfl | (simp; done) | (simp [*]; done), by repeat (first | exact Drawn0.refl _ | apply Drawn0.step)⟩
    · rw [if_neg c4] at H
      have c4b0 : decide (a1 < a0) = false := decide_eq_false c4
      clear c4
      obtain rfl := Option.some.inj H
      go_enter Tryd.func26, Tryd.ntmps26
      go_wp2
      go_ret
      exact ⟨by first | rfl | (simp; done) | (simp [*]; done), by repeat (first | exact Drawn0.refl _ | apply Drawn0.step)⟩

/-! ### conf_bit: function 27 -/
def conf_bit.f (a0 : Bool) : Option (Int) := if a0 = true then (some 1) else (some 0)
set_option maxHeartbeats 8000000 in
set_option maxRecDepth 100000 in
theorem conf_bit.calls (a0 : Bool) (r : Int) (w : World) (h : conf_bit.f a0 = some r) :
    Calls Tryd.prog 27 #[.bool a0] w fun e w' => e = .returned (.int .i64 r) ∧ Drawn0 w w' := by
  have H : (if a0 = true then (some 1) else (some 0)) = some r := h
  clear h
  by_cases c2 : a0 = true
  · subst c2
    have H1 : (some 1) = some r := by rw [if_pos rfl] at H; exact H
    clear H
    have H := H1
    clear H1
    obtain rfl := Option.some.inj H
    go_enter Tryd.func27, Tryd.ntmps27
    go_wp2
    go_ret
    exact ⟨by first | rfl | (simp; done) | (simp [*]; done), by repeat (first | exact Drawn0.refl _ | apply Drawn0.step)⟩
  · replace c2 := Bool.eq_false_iff.mpr c2
    subst c2
    have H1 : (some 0) = some r := by rw [if_neg (show ¬ (false = true) by decide)] at H; exact H
    clear H
    have H := H1
    clear H1
    obtain rfl := Option.some.inj H
    go_enter Tryd.func27, Tryd.ntmps27
    go_wp2
    go_ret
    exact ⟨by first | rfl | (simp; done) | (simp [*]; done), by repeat (first | exact Drawn0.refl _ | apply Drawn0.step)⟩

/-! ### strings_Compare: function 28 -/
def strings_Compare.f (a0 a1 : ByteArray) : Option Int := some (Lib.compareBytes a0.data.toList a1.data.toList)
theorem strings_Compare.calls (a0 a1 : ByteArray) (r : Int) (w : World) (h : strings_Compare.f a0 a1 = some r) :
    Calls Tryd.prog 28 #[.string a0, .string a1] w fun e w' => e = .returned (.int .i64 r) ∧ Drawn0 w w' := by
  simp only [strings_Compare.f, Option.some.injEq] at h
  subst h
  refine (Shelf.strings_Compare a0 a1 w).mono ?_
  rintro e w' ⟨rfl, rfl⟩
  exact ⟨rfl, Drawn0.refl _⟩


end Go.Proofs.YtnndipcggegclaaDoor.PConfOrders
