import Derived.Test.YtllpaepiiiedgaaProg
import Derived.Shelf.Strings.BuilderK
import Derived.Lib.UnsafeStr
import Derived.Lib.Hide
import Derived.WalkKit
import Derived.RowKit3
import Derived.Test.YtllpaepiiiedgaaWWords
namespace Go.Proofs.Ytllpaepiiiedgaa.Bld
open Go.RowKit Go.Shelf Go.Proofs.YtllpaepiiiedgaaW.PrintWords
set_option linter.unusedVariables false
set_option linter.unusedSimpArgs false
/-! strings.Builder at this dump: its five methods' contracts, over a builder in a block b of the caller's own; what is kept: all below B, and every block but b that is no row of bytes. -/
def ren : Ren := ⟨fun | 169 => 28 | n => n, fun | 70 => 58 | 3 => 3 | 0 => 0 | 72 => 60 | 37 => 47 | 127 => 76 | 9 => 9 | 5 => 5 | n => n, fun | n => n⟩
theorem lays : Go.Proofs.Lays.n169 Try.prog ren := {
  mixed := by kernel_rfl
  f169 := Try.func28.trans (congrArg some (by kernel_rfl))
  t0 := Try.underlying0
  a0 := Try.isAgg0
  z0 := Try.sizeOf0
  v0 := Try.zeroValue0
  t3 := Try.underlying3
  a3 := Try.isAgg3
  z3 := Try.sizeOf3
  v3 := Try.zeroValue3
  t9 := Try.underlying9
  a9 := Try.isAgg9
  z9 := Try.sizeOf9
  v9 := Try.zeroValue9
  t37 := Try.underlying47
  a37 := Try.isAgg47
  z37 := Try.sizeOf47
  v37 := Try.zeroValue47
  t70 := Try.underlying58
  a70 := Try.isAgg58
  z70 := Try.sizeOf58
  v70 := Try.zeroValue58
  t72 := Try.underlying60
  a72 := Try.isAgg60
  z72 := Try.sizeOf60
  v72 := Try.zeroValue60
  t127 := Try.underlying76
  a127 := Try.isAgg76
  z127 := Try.sizeOf76
  v127 := Try.zeroValue76 }
theorem extra : Go.Proofs.Builder.Extra Try.prog ren := {
  sizeBuilder := by kernel_rfl
  liesBuilder := by kernel_rfl
  t5 := Try.underlying5
  a5 := Try.isAgg5
  z5 := Try.sizeOf5
  v5 := Try.zeroValue5
  infoByte := by kernel_rfl
  cellsByte := by kernel_rfl
  sizeByte := by kernel_rfl
  neB5 := by decide }
/-- what a call keeps -/
def Kept (B b : Nat) (w w' : World) : Prop := Below B w w' ∧ Lib.OthersKept 5 (some b) w w'
abbrev Is (B b : Nat) (l : List UInt8) (w : World) : Prop := Lib.IsBuilderF 60 5 B b (Lib.byteCells l) w
theorem Kept.refl (B b : Nat) (w : World) : Kept B b w w := ⟨Below.refl B w, Lib.OthersKept.refl _ _ w⟩
theorem Kept.trans {B b : Nat} {w v u : World} (h : Kept B b w v) (k : Kept B b v u) : Kept B b w u := ⟨h.1.trans k.1, h.2.trans k.2⟩
set_option maxHeartbeats 1000000 in
set_option maxRecDepth 100000 in
theorem check_used (b : Nat) (w : World) (h0 : w.cell? ⟨b, 0, none⟩ = some (.pointer (some ⟨b, 0, none⟩))) :
    Calls Try.prog 36 #[.pointer (some ⟨b, 0, none⟩)] w fun e w' => e = .returned (.tuple #[]) ∧ w' = w := by
  obtain ⟨j, hj, hjs⟩ := Option.map_eq_some_iff.1 extra.sizeBuilder
  go_enter Try.func36, Try.ntmps36
  go_wp2
  rw [Lib.run_neq_ptr_same w _ Try.underlying58 hj]
  go_wp2
  go_end0
  exact ⟨rfl, rfl⟩
set_option maxHeartbeats 1000000 in
set_option maxRecDepth 100000 in
theorem check_fresh (b : Nat) (w : World) (h0 : w.cell? ⟨b, 0, none⟩ = some (.pointer none)) (hsh : w.shape? b = some (60, 2)) (hfz : w.frozen? ⟨b, 0, none⟩ = false) :
    Calls Try.prog 36 #[.pointer (some ⟨b, 0, none⟩)] w fun e w' => e = .returned (.tuple #[]) ∧ w' = w.setCell ⟨b, 0, none⟩ (.pointer (some ⟨b, 0, none⟩)) := by
  obtain ⟨j, hj, hjs⟩ := Option.map_eq_some_iff.1 extra.sizeBuilder
  go_enter Try.func36, Try.ntmps36
  go_wp2
  rw [Lib.run_to_unsafe w ⟨b, 0, none⟩ Try.underlying58 Try.underlying79 hj (by rw [hjs]; decide) hsh (Nat.zero_lt_succ 1)]
  simp only [Result.andThen]
  rw [Oper.upon_value]
  go_wp2
  rw [run_callFunc_extern Try.func43 (by kernel_rfl) (by kernel_rfl) (by kernel_rfl) (e := Extern.AbiNoEscape.same) (by kernel_rfl), Lib.run_noEscape]
  simp only [Result.andThen]
  rw [Oper.upon_value]
  go_wp2
  rw [Lib.run_from_unsafe w ⟨b, 0, none⟩ Try.underlying79 Try.underlying58 hj hsh extra.liesBuilder]
  simp only [Result.andThen]
  rw [Oper.upon_value]
  go_wp2
  go_end0
  exact ⟨rfl, rfl⟩
theorem check (B b : Nat) (bs : List Value) (w : World) (h : Lib.IsBuilderF 60 5 B b bs w) :
    Calls Try.prog 36 #[.pointer (some ⟨b, 0, none⟩)] w fun e w' => e = .returned (.tuple #[]) ∧ Lib.BuilderAtF 60 5 B b (.pointer (some ⟨b, 0, none⟩)) bs w' ∧ Kept B b w w' := by
  rcases h with h | h
  · refine (check_fresh b w h.cell0 h.shape h.frozen0).mono ?_
    rintro e w' ⟨rfl, rfl⟩
    exact ⟨rfl, h.used _, (Below.refl B w).setCell (p := ⟨b, 0, none⟩) h.1 _, (Lib.OthersKept.refl _ _ w).setCell ⟨b, 0, none⟩ rfl _⟩
  · refine (check_used b w h.cell0).mono ?_
    rintro e w' ⟨rfl, rfl⟩
    exact ⟨rfl, h, Kept.refl B b _⟩
theorem info : (Try.prog.info? 5).map (fun i => (i.zero, i.size, i.bytes)) = some (some (.int .u8 0), 1, 1) := by kernel_rfl
theorem lt_of {w : World} {b : Nat} {o : Obj} (h : w.heap[b]? = some o) : b < w.heap.size := (Array.getElem?_eq_some_iff.1 h).1
set_option maxHeartbeats 2000000 in
set_option maxRecDepth 100000 in
theorem writeString (B b : Nat) (l : List UInt8) (s : ByteArray) (w : World) (h : Is B b l w) (hlen : l.length + s.size ≤ 140737488355328) (hBw : B ≤ w.heap.size) :
    Calls Try.prog 27 #[.pointer (some ⟨b, 0, none⟩), .string s] w fun e w' => e = .returned (.tuple #[.int .i64 s.size, .nilIface]) ∧ Is B b (l ++ s.data.toList) w' ∧ Kept B b w w' := by
  obtain ⟨i0, hi, hz0, hz1, hz2⟩ := info_parts info
  go_enter Try.func27, Try.ntmps27
  go_wp2_with (go_at_call 36; refine (check B b _ _ h).mono ?_)
  rintro e w1 ⟨rfl, h1, hb1, hk1⟩
  obtain ⟨hB, v, hbk, hown, hne⟩ := h1
  have c0 : w1.cell? ⟨b, 0, none⟩ = some (.pointer (some ⟨b, 0, none⟩)) := by rw [Lib.cell_of_heap hbk]; rfl
  have c1 : w1.cell? ⟨b, 1, none⟩ = some v := by rw [Lib.cell_of_heap hbk]; rfl
  have hL : (Lib.byteCells l).length = l.length := Lib.byteCells_length l
  go_wp2_with (at_builtin; refine Lib.wpList_append_own_stringF _ rfl _ _ 47 9 rfl B 5 i0 Try.underlying47 Try.underlying9 hi hz0 hz1 hz2 _ _ _ rfl hown s rfl ?c3 ?c4 ?c5 ?_)
  case c3 => unfold maxLen; omega
  case c4 => omega
  case c5 => have := hb1.size; omega
  intro v' w2 hown' hgrow _
  have hlt : b < w1.heap.size := lt_of hbk
  have hb2 : w2.heap[b]? = some (.cells #[.pointer (some ⟨b, 0, none⟩), v] 60 (0, 0)) := by
    rw [hgrow.block b hlt (fun e => hne e.symm)]
    exact hbk
  have d0 : w2.cell? ⟨b, 0, none⟩ = some (.pointer (some ⟨b, 0, none⟩)) := by rw [Lib.cell_of_heap hb2]; rfl
  have d1 : w2.cell? ⟨b, 1, none⟩ = some v := by rw [Lib.cell_of_heap hb2]; rfl
  have f1 : w2.frozen? ⟨b, 1, none⟩ = false := Lib.frozen_of_heap hb2 1
  obtain ⟨ao, n', cap, rfl⟩ : ∃ ao n' cap, v' = .slice ao n' cap := by
    rcases hown'.2 with ⟨hv, _⟩ | ⟨g, cap, cur, fz, hv, _⟩
    · exact ⟨_, _, _, hv⟩
    · exact ⟨_, _, _, hv⟩
  have HO := Lib.hid hown'
  have HL := Lib.hid hL
  clear hL
  go_wp2
  go_ret2
  have e1 : Lib.byteCells l ++ Lib.strCells s = Lib.byteCells (l ++ s.data.toList) := by simp [Lib.byteCells, Lib.strCells]
  refine ⟨rfl, .inr ?_, ?_, (hk1.grown hgrow (Lib.ownsRowF_kind hown)).setCell ⟨b, 1, none⟩ rfl _⟩
  · rw [← e1]
    exact Lib.BuilderAtF.put (T := 60) (e := 5) hB hb2 (bs' := Lib.byteCells l ++ Lib.strCells s) (by simpa [Lib.strCells_length, HL.out] using HO.out) (by decide)
  · exact (hb1.grown hgrow (by have := hb1.size; omega) (fun k hk => (hown.lt k hk).1)).setCell (p := ⟨b, 1, none⟩) hB _
theorem string (B b : Nat) (l : List UInt8) (w : World) (h : Is B b l w) (hBw : B ≤ w.heap.size) :
    Calls Try.prog 28 #[.pointer (some ⟨b, 0, none⟩)] w fun e w' => e = .returned (.string ⟨l.toArray⟩) ∧ Is B b l w' ∧ Kept B b w w' :=
  (Any.Builder_String_any_k lays extra B b l w h hBw).mono fun e w' h => ⟨h.1, h.2.1, h.2.2⟩
theorem fresh (w : World) (v : Value) (hv : v = .slice none 0 0) : Is w.heap.size w.heap.size [] (w.alloc (.cells #[.pointer none, v] 60)) := by
  subst hv
  exact Lib.IsBuilderF.of (Lib.fresh_isBuilder _ _ w)
/-! Movers by types: only blocks of the listed types change. -/
def Stays (T : List Nat) (w w1 : World) : Prop := ∀ (k : Nat) (c : Array Value) (t : TypeId) (fz : Nat × Nat), w.heap[k]? = some (Obj.cells c t fz) → t ∉ T → w1.heap[k]? = w.heap[k]?
theorem Stays.trans {T : List Nat} {w v u : World} (h : Stays T w v) (k : Stays T v u) : Stays T w u := fun i c t fz hc ht => (k i c t fz ((h i c t fz hc ht).trans hc) ht).trans (h i c t fz hc ht)
theorem stays_alloc (T : List Nat) (w : World) (o : Obj) : Stays T w (w.alloc o) := fun k c t fz h _ => Below.heap_alloc w o k (lt_of h)
theorem stays_set {w : World} {g t : Nat} {cs : Array Value} {fz : Nat × Nat} (hg : w.heap[g]? = some (.cells cs t fz)) (i : Nat) (u : Value) : Stays [t] w (w.setCell ⟨g, i, none⟩ u) := fun k c t' fz' h ht =>
  Below.heap_setCell w _ u k (fun e => ht (by
    have e' : k = g := e
    subst e'
    rw [hg] at h
    injection h with h
    injection h with _ h _
    simp [h]))
theorem stays_grown {α : Type} {d : Kd α} {w w1 : World} {e base : Nat} {ok : Nat → Prop} {v : Value} {xs : List α} (h : d.R e w base ok v xs) (hg : w.grownBy w1 v.ownBlock) : Stays [e] w w1 := fun k c t fz hk ht =>
  hg.block k (lt_of hk) (fun e' => ht (by
    obtain ⟨_, inner, ho, _⟩ := h
    obtain ⟨cells, hc⟩ := own_typed ho k e'.symm
    rw [hk] at hc
    injection hc with hc
    injection hc with _ hc _
    simp [hc]))
theorem stays_kept {B b : Nat} {l : List UInt8} {w w1 : World} (h : Is B b l w) (hk : Kept B b w w1) : Stays [5, 60] w w1 := fun k c t fz hc ht => by
  have hb : ∃ cs, w.heap[b]? = some (.cells cs 60 (0, 0)) := by
    rcases h with ⟨_, v, hb, _⟩ | ⟨_, v, hb, _⟩ <;> exact ⟨_, hb⟩
  obtain ⟨cs, hb⟩ := hb
  rw [hk.2 k _ hc (fun e => ht (by
    injection e with e
    subst e
    rw [hb] at hc
    injection hc with hc
    injection hc with _ hc _
    simp [hc])) (fun c' fz' e => ht (by
    injection e with _ e _
    simp [e])), hc]
theorem is_stays {B b : Nat} {l : List UInt8} {T : List Nat} {w w1 : World} (h : Is B b l w) (hs : Stays T w w1) (h1 : 5 ∉ T) (h2 : 60 ∉ T) : Is B b l w1 := by
  have go : ∀ p, Lib.BuilderAtF 60 5 B b p (Lib.byteCells l) w → Lib.BuilderAtF 60 5 B b p (Lib.byteCells l) w1 := by
    rintro p ⟨hB, v, hb, ho, hne⟩
    refine ⟨hB, v, (hs b _ _ _ hb h2).trans hb, ?_, hne⟩
    obtain ⟨ho1, ho2⟩ := ho
    refine ⟨ho1, ?_⟩
    rcases ho2 with ho2 | ⟨g, cap, cur, fz, hv, hg1, hg2, r⟩
    · exact .inl ho2
    · exact .inr ⟨g, cap, cur, fz, hv, hg1, (hs g _ _ _ hg2 h1).trans hg2, r⟩
  exact h.imp (go _) (go _)
theorem r_stays {α : Type} {d : Kd α} {w w1 : World} {e base : Nat} {ok : Nat → Prop} {v : Value} {xs : List α} {T : List Nat} (h : d.R e w base ok v xs) (hs : Stays T w w1) (hT : ∀ q, q ∈ e :: d.E → q ∉ T) : d.R e w1 base ok v xs :=
  Kd.R_mono (Kd.R_move (Kd.R_bound h) (fun k hk => by
    obtain ⟨_, _, _, q, hq, cells, hc⟩ := hk
    exact hs k _ _ _ hc (hT q hq))) (fun _ hk => hk.1)
theorem blk_stays {w w1 : World} {g t : Nat} {cs : Array Value} {fz : Nat × Nat} {T : List Nat} (h : w.heap[g]? = some (.cells cs t fz)) (hs : Stays T w w1) (hT : t ∉ T) : w1.heap[g]? = some (.cells cs t fz) := (hs g _ _ _ h hT).trans h
end Go.Proofs.Ytllpaepiiiedgaa.Bld
