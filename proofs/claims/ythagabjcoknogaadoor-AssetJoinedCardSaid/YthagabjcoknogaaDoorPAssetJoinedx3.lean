-- Made for this claim by a program of this session (xprint.py over the kit's printing program); Lean checks it.
import Derived.Test.YthagabjcoknogaaDoorPAssetJoinedx0
import Derived.Test.YthagabjcoknogaaDoorPAssetJoinedx1
import Derived.Test.YthagabjcoknogaaDoorPAssetJoinedx2
namespace Go.Proofs.YthagabjcoknogaaDoor.PAssetJoined
open Go.RowKit Go.Proofs.YthagabjcoknogaaDoorW.PrintWords Go.Proofs.YthagabjcoknogaaDoorW.PrintLast Go.Proofs.YthagabjcoknogaaDoorW.PrintMore
attribute [local go_sem] max2_int min2_int max_two min_two max_three min_three max_four min_four   -- for this text's walks alone
set_option linter.unusedVariables false
set_option linter.unusedSimpArgs false

/-! ### asset_Bundle: function 12 -/
def bd_nl (x : S41) : Bool := !(x.f1.data.toList == []) && !(x.f1.data.toList.getLast? == some 10)
def bd_piece (x : S41) : List UInt8 := x.f1.data.toList ++ if bd_nl x then [10] else []
def bd_text (l : List S41) (j : Nat) : List UInt8 := (l.take j).flatMap bd_piece
def bd_ends (l : List S41) (j : Nat) : List Int := (List.range j).map fun i => ((bd_text l (i + 1)).length : Int)
def bd_paths (l : List S41) (j : Nat) : List ByteArray := (l.take j).map (·.f0)
def asset_Bundle.f (k : Nat) (l0 : List S41) : Option (ByteArray × List ByteArray × List Int × Int) :=
  if l0.length ≤ 9223372036854775807 then
    if l0.all (fun x => decide (x.f1.size ≤ 20000)) = true then
      if 40 < l0.length then some (⟨#[]⟩, [], [], 4) else
      (asset_partsFault.f k (bd_paths l0 l0.length)).bind fun e => if e = 0 then
        (if 200000 < (bd_text l0 l0.length).length then some (⟨#[]⟩, [], [], 4) else some (⟨(bd_text l0 l0.length).toArray⟩, bd_paths l0 l0.length, bd_ends l0 l0.length, 0))
        else some (⟨#[]⟩, [], [], e)
    else some (⟨#[]⟩, [], [], 4)
  else none
theorem asset_Bundle.mono : ∀ a0 k, LeO (asset_Bundle.f k a0) (asset_Bundle.f (k + 1) a0) := by
  intro a0 k
  unfold asset_Bundle.f
  split
  · split
    · split
      · exact LeO.refl _
      · exact LeO.bind (asset_partsFault.mono _ _) (fun _ => LeO.refl _)
    · exact LeO.refl _
  · exact LeO.refl _
theorem bd_get {l : List S41} {j : Nat} (h : j < l.length) : l.take (j + 1) = l.take j ++ [rd_T41 l j] := by
  unfold rd_T41
  rw [Int.toNat_natCast, List.getD_eq_getElem?_getD, List.getElem?_eq_getElem h, Option.getD_some, List.take_succ_eq_append_getElem h]
theorem bd_text_succ {l : List S41} {j : Nat} (h : j < l.length) : bd_text l (j + 1) = bd_text l j ++ bd_piece (rd_T41 l j) := by
  unfold bd_text; rw [bd_get h]; simp
theorem bd_paths_succ {l : List S41} {j : Nat} (h : j < l.length) : bd_paths l (j + 1) = bd_paths l j ++ [(rd_T41 l j).f0] := by
  unfold bd_paths; rw [bd_get h]; simp
theorem bd_ends_succ (l : List S41) (j : Nat) : bd_ends l (j + 1) = bd_ends l j ++ [((bd_text l (j + 1)).length : Int)] := by
  unfold bd_ends; rw [List.range_succ]; simp
theorem bd_paths_len {l : List S41} {j : Nat} (h : j ≤ l.length) : (bd_paths l j).length = j := by unfold bd_paths; simp; omega
theorem bd_ends_len (l : List S41) (j : Nat) : (bd_ends l j).length = j := by unfold bd_ends; simp
theorem bd_mem {l : List S41} {j : Nat} (h : j < l.length) : rd_T41 l j ∈ l := by
  unfold rd_T41
  rw [Int.toNat_natCast, List.getD_eq_getElem?_getD, List.getElem?_eq_getElem h, Option.getD_some]
  exact List.getElem_mem _
theorem bd_piece_len (x : S41) : (bd_piece x).length ≤ x.f1.size + 1 := by
  unfold bd_piece
  rw [List.length_append, ← Lib.size_eq]
  split <;> simp
theorem bd_text_len {l : List S41} (hl : ∀ x ∈ l, x.f1.size ≤ 20000) : ∀ j, j ≤ l.length → (bd_text l j).length ≤ 20001 * j
  | 0, _ => by simp [bd_text]
  | j + 1, h => by
    rw [bd_text_succ (by omega), List.length_append]
    have := bd_text_len hl j (by omega)
    have h2 := bd_piece_len (rd_T41 l j)
    have h3 := hl _ (bd_mem (j := j) (by omega))
    omega
structure BdAt (w : World) (q : Nat) (u1 u2 v1 v2 : Value) (l : List UInt8) (ps : List ByteArray) (es : List Int) (W : World) : Prop where
  Q : W.heap[q]? = some (.cells #[.string ⟨#[]⟩, u1, u2] 35 (0, 0))
  A : W.heap[w.heap.size]? = some (.cells #[.string ⟨#[]⟩, .slice none 0 0, .slice none 0 0] 35 (0, 0))
  B : Below w.heap.size w W
  D : Bld.Is w.heap.size (q + 1) l W
  V1 : Kd.R Kd.string 9 W w.heap.size (fun _ => True) v1 ps
  V2 : Kd.R (Kd.int .i64) 3 W w.heap.size (fun _ => True) v2 es
theorem BdAt.alloc {w W : World} {q : Nat} {u1 u2 v1 v2 : Value} {l : List UInt8} {ps : List ByteArray} {es : List Int} (h : BdAt w q u1 u2 v1 v2 l ps es W) (o : Obj) : BdAt w q u1 u2 v1 v2 l ps es (W.alloc o) :=
  ⟨blk_alloc h.Q o, blk_alloc h.A o, below_alloc h.B o, Bld.is_stays h.D (Bld.stays_alloc [] W o) (by simp) (by simp), Kd.R_alloc h.V1 o, Kd.R_alloc h.V2 o⟩
theorem BdAt.drew {w W : World} {q : Nat} {u1 u2 v1 v2 : Value} {l : List UInt8} {ps : List ByteArray} {es : List Int} (h : BdAt w q u1 u2 v1 v2 l ps es W) : BdAt w q u1 u2 v1 v2 l ps es W.drew :=
  ⟨h.Q, h.A, below_drew h.B, Bld.is_stays h.D (T := []) (fun _ _ _ _ _ _ => rfl) (by simp) (by simp), Kd.R_drew h.V1, Kd.R_drew h.V2⟩
theorem BdAt.drewN {w W : World} {q : Nat} {u1 u2 v1 v2 : Value} {l : List UInt8} {ps : List ByteArray} {es : List Int} (h : BdAt w q u1 u2 v1 v2 l ps es W) (n : Nat) : BdAt w q u1 u2 v1 v2 l ps es (W.drewN n) :=
  ⟨h.Q, h.A, pw_below_drewN h.B n, Bld.is_stays h.D (T := []) (fun _ _ _ _ _ _ => rfl) (by simp) (by simp), Kd.R_drewN h.V1 n, Kd.R_drewN h.V2 n⟩
theorem BdAt.below {w W W1 : World} {q : Nat} {u1 u2 v1 v2 : Value} {l : List UInt8} {ps : List ByteArray} {es : List Int} (h : BdAt w q u1 u2 v1 v2 l ps es W) (hb : Below W.heap.size W W1) : BdAt w q u1 u2 v1 v2 l ps es W1 :=
  ⟨blk_below h.Q hb, blk_below h.A hb, below_step h.B hb, Bld.is_stays h.D (T := []) (fun k _ _ _ hk _ => hb.block k (Bld.lt_of hk)) (by simp) (by simp), Kd.R_below h.V1 hb, Kd.R_below h.V2 hb⟩
theorem BdAt.app1 {w W W1 : World} {q : Nat} {u1 u2 v1 v2 v : Value} {l : List UInt8} {ps ps' : List ByteArray} {es : List Int} (h : BdAt w q u1 u2 v1 v2 l ps es W) (ho : Kd.R Kd.string 9 W1 w.heap.size (fun _ => True) v ps') (hb : Below w.heap.size w W1) (hg : W.grownBy W1 v1.ownBlock) : BdAt w q u1 u2 v v2 l ps' es W1 := by
  have s := Bld.stays_grown h.V1 hg
  exact ⟨Bld.blk_stays h.Q s (by decide), Bld.blk_stays h.A s (by decide), hb, Bld.is_stays h.D s (by decide) (by decide), ho, Bld.r_stays h.V2 s (by decide)⟩
theorem BdAt.app2 {w W W1 : World} {q : Nat} {u1 u2 v1 v2 v : Value} {l : List UInt8} {ps : List ByteArray} {es es' : List Int} (h : BdAt w q u1 u2 v1 v2 l ps es W) (ho : Kd.R (Kd.int .i64) 3 W1 w.heap.size (fun _ => True) v es') (hb : Below w.heap.size w W1) (hg : W.grownBy W1 v2.ownBlock) : BdAt w q u1 u2 v1 v l ps es' W1 := by
  have s := Bld.stays_grown h.V2 hg
  exact ⟨Bld.blk_stays h.Q s (by decide), Bld.blk_stays h.A s (by decide), hb, Bld.is_stays h.D s (by decide) (by decide), Bld.r_stays h.V1 s (by decide), ho⟩
theorem BdAt.kept {w W W1 : World} {q : Nat} {u1 u2 v1 v2 : Value} {l l' : List UInt8} {ps : List ByteArray} {es : List Int} (h : BdAt w q u1 u2 v1 v2 l ps es W) (hi : Bld.Is w.heap.size (q + 1) l' W1) (hk : Bld.Kept w.heap.size (q + 1) W W1) : BdAt w q u1 u2 v1 v2 l' ps es W1 := by
  have s := Bld.stays_kept h.D hk
  exact ⟨Bld.blk_stays h.Q s (by decide), Bld.blk_stays h.A s (by decide), h.B.trans hk.1, hi, Bld.r_stays h.V1 s (by decide), Bld.r_stays h.V2 s (by decide)⟩
theorem BdAt.set1 {w W : World} {q : Nat} {u1 u2 v1 v2 : Value} {l : List UInt8} {ps : List ByteArray} {es : List Int} (h : BdAt w q u1 u2 v1 v2 l ps es W) (hq : w.heap.size < q) (v : Value) : BdAt w q v u2 v1 v2 l ps es (W.setCell ⟨q, 1, none⟩ v) := by
  have s := Bld.stays_set h.Q 1 v
  exact ⟨blk_put h.Q 1 v rfl, blk_far h.A (p := ⟨q, 1, none⟩) (show w.heap.size ≠ q by omega) v, below_set h.B (by omega), Bld.is_stays h.D s (by decide) (by decide), Bld.r_stays h.V1 s (by decide), Bld.r_stays h.V2 s (by decide)⟩
theorem BdAt.set2 {w W : World} {q : Nat} {u1 u2 v1 v2 : Value} {l : List UInt8} {ps : List ByteArray} {es : List Int} (h : BdAt w q u1 u2 v1 v2 l ps es W) (hq : w.heap.size < q) (v : Value) : BdAt w q u1 v v1 v2 l ps es (W.setCell ⟨q, 2, none⟩ v) := by
  have s := Bld.stays_set h.Q 2 v
  exact ⟨blk_put h.Q 2 v rfl, blk_far h.A (p := ⟨q, 2, none⟩) (show w.heap.size ≠ q by omega) v, below_set h.B (by omega), Bld.is_stays h.D s (by decide) (by decide), Bld.r_stays h.V1 s (by decide), Bld.r_stays h.V2 s (by decide)⟩
theorem bd_close {w W : World} {q n1 n2 m1 m2 c1 c2 : Nat} {A1 A2 : Option Addr} {l l' : List UInt8} {ps ps' : List ByteArray} {es es' : List Int} (h : BdAt w q (.slice A1 n1 c1) (.slice A2 n2 c2) (.slice A1 m1 c1) (.slice A2 m2 c2) l ps es W) (e1 : n1 = m1) (e2 : n2 = m2) (e3 : l = l') (e4 : ps = ps') (e5 : es = es') :
    BdAt w q (.slice A1 m1 c1) (.slice A2 m2 c2) (.slice A1 m1 c1) (.slice A2 m2 c2) l' ps' es' W := by
  subst e1 e2 e3 e4 e5; exact h
theorem bd_suffix (s : ByteArray) (h1 : s.size ≤ 20000) (h0 : s.toList ≠ []) : strings_HasSuffix.f s (⟨#[10]⟩ : ByteArray) = some (s.data.toList.getLast? == some 10) := by
  have e1 : (⟨#[10]⟩ : ByteArray).size = 1 := rfl
  have hL : s.data.toList ≠ [] := by rw [← Lib.toList_data]; exact h0
  have hs : 1 ≤ s.size := by rw [Lib.size_eq]; exact List.length_pos_iff.2 hL
  have w1 : wrap64 ((s.size : Int) - ((1 : Nat) : Int)) = ((s.size - 1 : Nat) : Int) := by unfold wrap64; omega
  unfold strings_HasSuffix.f stringslite_HasSuffix.f
  rw [e1, w1, if_pos (by omega), if_pos (by omega), if_pos (by omega), Int.toNat_natCast, Option.bind_some]
  congr 1
  rw [Lib.toList_data, Lib.toList_data, Lib.extract_to_end, Lib.size_eq]
  have e2 : s.data.toList = s.data.toList.dropLast ++ [s.data.toList.getLast hL] := (List.dropLast_concat_getLast hL).symm
  generalize s.data.toList.dropLast = A at e2
  generalize s.data.toList.getLast hL = c at e2
  rw [e2]
  have e3 : (A ++ [c]).drop ((A ++ [c]).length - 1) = [c] := by
    rw [List.length_append, List.length_singleton, Nat.add_sub_cancel, List.drop_left]
  rw [e3, List.getLast?_concat]
  rw [Bool.eq_iff_iff, beq_iff_eq, beq_iff_eq]
  show [c] = [10] ↔ _
  simp
theorem bd_piece_no {x : S41} (h : bd_nl x = false) : bd_piece x = x.f1.data.toList := by unfold bd_piece; rw [h]; simp
theorem bd_piece_yes {x : S41} (h : bd_nl x = true) : bd_piece x = x.f1.data.toList ++ [10] := by unfold bd_piece; rw [h]; simp
theorem bd_fresh {w wr : World} (h : w.heap.size < wr.heap.size) {l0 : List S41} : Bld.Is w.heap.size (wr.heap.size + 1) (bd_text l0 0) ((wr.alloc (.cells #[.string ⟨#[]⟩, .slice none 0 0, .slice none 0 0] 35)).alloc (.cells #[.pointer none, .slice none 0 0] 65)) := by
  refine .inl ⟨by omega, .slice none 0 0, ?_, ⟨by simp [bd_text, Lib.byteCells], .inl ⟨rfl, by simp [bd_text, Lib.byteCells]⟩⟩, by simp [Value.ownBlock]⟩
  have := blk_new (wr.alloc (.cells #[.string ⟨#[]⟩, .slice none 0 0, .slice none 0 0] 35)) (.cells #[.pointer none, .slice none 0 0] 65)
  simpa using this
set_option maxHeartbeats 2000000 in
set_option maxRecDepth 100000 in
theorem asset_Bundle.calls (k : Nat) (A0 : Option Addr) (c0 : Nat) (l0 : List S41) (r1 : ByteArray) (r2 : List ByteArray) (r3 : List Int) (r4 : Int) (w : World) (hr0 : Kd.C k41 w A0 l0.length l0) (hc0 : l0.length ≤ c0) (h : asset_Bundle.f k l0 = some (r1, r2, r3, r4)) :
    Calls Tryd.prog 12 #[.slice A0 l0.length c0] w fun e w' => ∃ v1_ v2_ : Value, e = .returned (.tuple #[.agg #[.string r1, v1_, v2_], .int .i64 r4]) ∧ Kd.R Kd.string 9 w' w.heap.size (fun _ => True) v1_ r2 ∧ Kd.R (Kd.int .i64) 3 w' w.heap.size (fun _ => True) v2_ r3 ∧ Below w.heap.size w w' := by
  have HR := Aside0.mk hr0
  have HC := Aside0.mk hc0
  clear hr0 hc0
  unfold asset_Bundle.f at h
  split at h
  case isFalse => cases h
  rename_i hlen
  have H := Aside0.mk h
  clear h
  have hu_b := Tryd.underlying35
  go_enter Tryd.func12, Tryd.ntmps12
  go_wp2_with fail
  go_loopw [13] (fun i wr => ∃ j : Nat, j ≤ l0.length ∧ i = .int .i64 j ∧ Aside0 (∀ x ∈ l0.take j, x.f1.size ≤ 20000) ∧ Aside0 (Below w.heap.size w wr) ∧ Aside0 (wr.heap[w.heap.size]? = some (.cells #[.string ⟨#[]⟩, .slice none 0 0, .slice none 0 0] 35 (0, 0)))) (fun i _ => l0.length - (intOf i).toNat)
  case atStart => exact ⟨0, Nat.zero_le _, rfl, ⟨by simp⟩, ⟨below_alloc (Below.refl _ _) _⟩, ⟨blk_new _ _⟩⟩
  case round =>
    obtain ⟨j, hj, rfl, HS, HB, HA⟩ := hrel
    by_cases hlt : j < l0.length
    · obtain ⟨ad, rfl, hc1, hc2⟩ := at_T41 (Kd.C_below HR.out HB.out) j (by omega) (by omega)
      rw [Int.toNat_natCast] at hc1 hc2
      generalize hx : rd_T41 l0 j = x at *
      have hxm : x ∈ l0 := by
        rw [← hx]; unfold rd_T41
        rw [Int.toNat_natCast, List.getD_eq_getElem?_getD, List.getElem?_eq_getElem hlt, Option.getD_some]
        exact List.getElem_mem _
      have hxt : l0.take (j + 1) = l0.take j ++ [x] := by
        rw [← hx]; unfold rd_T41
        rw [Int.toNat_natCast, List.getD_eq_getElem?_getD, List.getElem?_eq_getElem hlt, Option.getD_some, List.take_succ_eq_append_getElem hlt]
      have HXT := Aside0.mk hxt
      have HX := Aside0.mk hx
      clear hx hxt
      by_cases hs : x.f1.size ≤ 20000
      · have hs' : (x.f1.size : Int) ≤ 20000 := by omega
        go_wp2_with fail
        go_roundw
        case rel => exact ⟨j + 1, by omega, by go_num, ⟨by rw [HXT.out]; intro y hy; rcases List.mem_append.1 hy with hy | hy; exact HS.out y hy; rw [List.mem_singleton.1 hy]; exact hs⟩, ⟨below_alloc HB.out _⟩, ⟨blk_alloc HA.out _⟩⟩
        case measure => simp [intOf]; omega
      · have hs' : 20000 < (x.f1.size : Int) := by omega
        have hall : (l0.all fun x => decide (x.f1.size ≤ 20000)) = false := by
          rw [List.all_eq_false]; exact ⟨x, hxm, by simpa using hs⟩
        have H1 := H.out
        rw [hall, if_neg (by decide)] at H1
        simp only [Option.some.injEq, Prod.mk.injEq] at H1
        obtain ⟨rfl, rfl, rfl, rfl⟩ := H1
        have hwl : w.heap.size < wr.heap.size := blk_lt HA.out
        have q0 : wr.cell? ⟨w.heap.size, 0, none⟩ = some (.string ⟨#[]⟩) := blk_cell HA.out 0
        have q1 : wr.cell? ⟨w.heap.size, 1, none⟩ = some (.slice none 0 0) := blk_cell HA.out 1
        have q2 : wr.cell? ⟨w.heap.size, 2, none⟩ = some (.slice none 0 0) := blk_cell HA.out 2
        have f0 := blk_frozen HA.out 0
        have f1 := blk_frozen HA.out 1
        have f2 := blk_frozen HA.out 2
        go_wp2_with fail
        refine bodyPost_ret (results_ct rfl _ _ w.heap.size 35 #[.string ⟨#[]⟩, .slice none 0 0, .slice none 0 0] (0, 0) _ rfl (by (try refine blk_alloc ?_ _); refine blk_put (cs := #[.string ⟨#[]⟩, .slice none 0 0, .slice none 0 0]) ?_ 2 _ rfl; refine blk_put (cs := #[.string ⟨#[]⟩, .slice none 0 0, .slice none 0 0]) ?_ 1 _ rfl; refine blk_put (cs := #[.string ⟨#[]⟩, .slice none 0 0, .slice none 0 0]) ?_ 0 _ rfl; first | exact HA.out | exact blk_alloc HA.out _) Tryd.underlying35 rfl (by kernel_rfl)) rfl ?_
        exact ⟨_, _, rfl, Kd.R_nil _ _ _ _ _, Kd.R_nil _ _ _ _ _, (by repeat (first | exact HB.out | apply below_alloc | refine below_set ?_ (Nat.le_refl _)))⟩
    · obtain rfl : j = l0.length := by omega
      have hall : (l0.all fun x => decide (x.f1.size ≤ 20000)) = true := by
        rw [List.all_eq_true]; intro x hx; exact decide_eq_true (HS.out x (by rw [List.take_length]; exact hx))
      have H1 := H.out
      rw [hall, if_pos rfl] at H1
      clear H HS
      have HALL := Aside0.mk hall
      clear hall
      have hwl : w.heap.size < wr.heap.size := blk_lt HA.out
      by_cases h40 : 40 < l0.length
      · rw [if_pos h40] at H1
        simp only [Option.some.injEq, Prod.mk.injEq] at H1
        obtain ⟨rfl, rfl, rfl, rfl⟩ := H1
        have q0 : wr.cell? ⟨w.heap.size, 0, none⟩ = some (.string ⟨#[]⟩) := blk_cell HA.out 0
        have q1 : wr.cell? ⟨w.heap.size, 1, none⟩ = some (.slice none 0 0) := blk_cell HA.out 1
        have q2 : wr.cell? ⟨w.heap.size, 2, none⟩ = some (.slice none 0 0) := blk_cell HA.out 2
        have f0 := blk_frozen HA.out 0
        have f1 := blk_frozen HA.out 1
        have f2 := blk_frozen HA.out 2
        have h40' : (40 : Int) < (l0.length : Int) := by omega
        go_wp2_with fail
        refine bodyPost_ret (results_ct rfl _ _ w.heap.size 35 #[.string ⟨#[]⟩, .slice none 0 0, .slice none 0 0] (0, 0) _ rfl (by (try refine blk_alloc ?_ _); refine blk_put (cs := #[.string ⟨#[]⟩, .slice none 0 0, .slice none 0 0]) ?_ 2 _ rfl; refine blk_put (cs := #[.string ⟨#[]⟩, .slice none 0 0, .slice none 0 0]) ?_ 1 _ rfl; refine blk_put (cs := #[.string ⟨#[]⟩, .slice none 0 0, .slice none 0 0]) ?_ 0 _ rfl; first | exact HA.out | exact blk_alloc HA.out _) Tryd.underlying35 rfl (by kernel_rfl)) rfl ?_
        exact ⟨_, _, rfl, Kd.R_nil _ _ _ _ _, Kd.R_nil _ _ _ _ _, (by repeat (first | exact HB.out | apply below_alloc | refine below_set ?_ (Nat.le_refl _)))⟩
      · rw [if_neg h40] at H1
        have HH := Aside0.mk H1
        clear H1
        have h40' : (l0.length : Int) ≤ 40 := by omega
        go_wp2_with fail
        have hall : ∀ x ∈ l0, x.f1.size ≤ 20000 := fun x hx => of_decide_eq_true (List.all_eq_true.1 HALL.out x hx)
        have HX := Aside0.mk hall
        clear hall HALL
        have HP0 := Aside0.mk (show BdAt w wr.heap.size (.slice none 0 0) (.slice none 0 0) (.slice none 0 0) (.slice none 0 0) (bd_text l0 0) (bd_paths l0 0) (bd_ends l0 0) ((wr.alloc (.cells #[.string ⟨#[]⟩, .slice none 0 0, .slice none 0 0] 35)).alloc (.cells #[.pointer none, .slice none 0 0] 65)) from
          ⟨blk_alloc (blk_new _ _) _, blk_alloc (blk_alloc HA.out _) _, below_alloc (below_alloc HB.out _) _, bd_fresh hwl, Kd.R_nil _ _ _ _ _, Kd.R_nil _ _ _ _ _⟩)
        have hq : w.heap.size < wr.heap.size := hwl
        generalize ((wr.alloc (.cells #[.string ⟨#[]⟩, .slice none 0 0, .slice none 0 0] 35)).alloc (.cells #[.pointer none, .slice none 0 0] 65)) = w0 at HP0 ⊢
        generalize wr.heap.size = q at HP0 hq ⊢
        clear HB HA hwl
        go_loopw [30] (fun i W => ∃ j : Nat, j ≤ l0.length ∧ i = .int .i64 j ∧ ∃ v1 v2, Aside0 (BdAt w q v1 v2 v1 v2 (bd_text l0 j) (bd_paths l0 j) (bd_ends l0 j) W)) (fun i _ => l0.length - (intOf i).toNat)
        case atStart => exact ⟨0, Nat.zero_le _, rfl, _, _, HP0⟩
        case round =>
          clear HP0
          obtain ⟨j, hj, rfl, v1, v2, HP⟩ := hrel
          by_cases hlt : j < l0.length
          · obtain ⟨ad, rfl, hc1, hc2⟩ := at_T41 (Kd.C_below HR.out HP.out.B) j (by omega) (by omega)
            rw [Int.toNat_natCast] at hc1 hc2
            have hxs : (rd_T41 l0 j).f1.size ≤ 20000 := HX.out _ (bd_mem hlt)
            have e1 := Aside0.mk (bd_text_succ hlt)
            have e2 := Aside0.mk (bd_paths_succ hlt)
            have e3 := Aside0.mk (bd_ends_succ l0 j)
            have tl : (bd_text l0 j).length ≤ 20001 * j := bd_text_len HX.out j hj
            generalize hx : rd_T41 l0 j = x at *
            have HXX := Aside0.mk hx
            clear hx
            have c1 : wr.cell? ⟨q, 1, none⟩ = some v1 := blk_cell HP.out.Q 1
            have hql : q < wr.heap.size := blk_lt HP.out.Q
            have hqf : wr.frozen? ⟨q, 1, none⟩ = false := blk_frozen HP.out.Q 1
            go_wp2_with (((with_reducible refine gate_builtin (b := .append) (xs := #[.tmp 35, .tmp 38]) rfl ?_); at_builtin; refine Kd.R_append Kd.string (w0 := w) w.heap.size rfl (.tmp 35) (.tmp 38) 32 9 (.string ⟨#[]⟩) 16 rfl Tryd.underlying32 info9 rfl (by decide) (by omega) v1 (bd_paths l0 j) x.f0 [.string x.f0] (fun _ => True) (fun _ => False) rfl ?aX ?aP (fun _ hk => hk.elim) (fun _ _ => trivial) ?aO ?aB ?aS ?aL ?_; (case aX => refine Eq.trans (b := .slice (some ⟨wr.heap.size + 1, 0, none⟩) 1 1) rfl ?_; simp); (case aP => exact rfl); (case aB => exact below_alloc HP.out.B _); (case aO => exact Kd.R_alloc HP.out.V1 _); (case aS => exact below_size (below_alloc HP.out.B _)); (case aL => rw [bd_paths_len hj]; omega); intro v38 W38 ho hb hg hat; have HF := Aside0.mk (Bld.blk_stays (blk_new wr (.cells #[.string x.f0, .string x.f1] 41)) (Bld.stays_grown (Kd.R_alloc HP.out.V1 _) hg) (by decide)); have n1 := Aside0.mk ((HP.out.alloc _).app1 ho hb hg); clear HP ho hb hg hat; have HP := n1; clear n1 c1 hqf hc1 hc2; have hqn : q ≠ wr.heap.size := (by omega); have hqn' : wr.heap.size ≠ q := (by omega); have c1 : W38.cell? ⟨q, 1, none⟩ = some v1 := blk_cell HP.out.Q 1; have hqf : W38.frozen? ⟨q, 1, none⟩ = false := blk_frozen HP.out.Q 1; have d1 : W38.cell? ⟨wr.heap.size, 1, none⟩ = some (.string x.f1) := blk_cell HF.out 1; obtain ⟨Ao38, co38, eo38⟩ := Kd.R_slice HP.out.V1; subst eo38))
            have HP2 := Aside0.mk (HP.out.set1 hq (.slice Ao38 ((bd_paths l0 j).length + 1) co38))
            have HF2 := Aside0.mk (blk_far HF.out (p := ⟨q, 1, none⟩) (show wr.heap.size ≠ q from hqn') (.slice Ao38 ((bd_paths l0 j).length + 1) co38))
            generalize (W38.setCell { block := q, off := 1 } (.slice Ao38 ((bd_paths l0 j).length + 1) co38)) = W2 at HP2 HF2 ⊢
            generalize wr.heap.size = fb at HF2 ⊢
            clear HP HF c1 hqf d1 hqn hqn' hql
            refine (Bld.writeString w.heap.size (q + 1) (bd_text l0 j) x.f1 W2 HP2.out.D (by omega) (below_size HP2.out.B)).mono ?_
            rintro e W3 ⟨rfl, hi, hk⟩
            have HP := Aside0.mk (HP2.out.kept hi hk)
            have HF := Aside0.mk (Bld.blk_stays HF2.out (Bld.stays_kept HP2.out.D hk) (by decide))
            clear HP2 HF2 hi hk
            have d1 : W3.cell? ⟨fb, 1, none⟩ = some (.string x.f1) := blk_cell HF.out 1
            obtain ⟨Ao2, co2, eo2⟩ := Kd.R_slice HP.out.V2
            subst eo2
            by_cases h0 : x.f1.toList = []
            · have h0a : (x.f1.toList == []) = true := beq_iff_eq.2 h0
              have h0b : (x.f1.toList != []) = false := bne_eq_false_iff_eq.2 h0
              have H0 := Aside0.mk h0
              clear h0
              go_wp2_with fail
              refine start_ (n := 7) (S := fun w' => w'.cell? ⟨q, 2, none⟩ = some (.slice Ao2 (bd_ends l0 j).length co2)) (ds := [6]) #[false, false, false, false, false, false, false] (by kernel_rfl) rfl rfl (blk_cell HP.out.Q 2) (fun hHeld => ?_)
              have HP4 := Aside0.mk HP.out.drew
              generalize W3.drew = W4 at HP4 hHeld ⊢
              clear HP
              refine pure_ (i := 0) (N := some 54) (v := ?_) (a' := ?_) #[true, false, false, false, false, false, false] rfl rfl (by kernel_rfl) (fun _ _ _ h => h) (Or.inl ⟨by rfl, ?_⟩) ?_ ?_
              rotate_left
              · intro w'
                go_simp
                with_reducible rfl
              rotate_left
              · simp only [Act.put, List.setIfInBounds_toArray, List.set_cons_zero, List.set_cons_succ, i64_w, i32_w]
                rfl
              refine take_ (i := 1) (N := some 55) (v := ?_) (a' := ?_) #[true, true, false, false, false, false, false] rfl rfl (by kernel_rfl) (fun _ _ _ h => h) (Or.inl ⟨by rfl, ?_⟩) hHeld ?_ ?_
              rotate_left
              · rintro w' s0
                go_simp
                with_reducible rfl
              rotate_left
              · simp only [Act.put, List.setIfInBounds_toArray, List.set_cons_zero, List.set_cons_succ, i64_w, i32_w]
                rfl
              refine one_ (i := 2) (N := some 56) #[true, true, true, false, false, false, false] rfl rfl (by kernel_rfl) (by decide) (fun K hK => ?_)
              refine goes_ Tryd.func30 (by kernel_rfl) rfl #[.pointer (some ⟨q + 1, 0, none⟩)] (by rfl) rfl rfl (by (try simp only [List.map_toArray, List.map_cons, List.map_nil]); first | done | rfl) ?_
              obtain ⟨n, hn⟩ : ∃ n : Int, (((bd_text l0 j ++ x.f1.data.toList).length : Nat) : Int) = n := ⟨_, rfl⟩
              have HN := Aside0.mk hn
              refine (show Calls Tryd.prog 30 #[.pointer (some ⟨q + 1, 0, none⟩)] W4 (fun e w' => e = .returned (.int .i64 n) ∧ w' = W4) from hn ▸ Bld.len w.heap.size (q + 1) (bd_text l0 j ++ x.f1.data.toList) W4 HP4.out.D).mono ?_
              clear hn
              rintro e W5 ⟨rfl, rfl⟩
              refine ⟨_, rfl, ?_⟩
              refine hK.out _ _ hHeld (fun hHeld => ?_)
              clear hK K
              refine norm_ (a' := ?_) ?_ ?_
              rotate_left
              · show Act.put _ (some 56) _ = _
                simp only [Act.put, List.setIfInBounds_toArray, List.set_cons_zero, List.set_cons_succ, i64_w, i32_w]
                rfl
              refine one_ (i := 3) (N := some 57) #[true, true, true, true, false, false, false] rfl rfl (by kernel_rfl) (by decide) (fun K hK => ?_)
              refine value_ (w1 := ?_) (v := ?_) (by rfl) rfl ?_ ?_
              rotate_left 2
              · go_simp
                constructor
                · rfl
                · rfl
              refine hK.out _ _ (blk_cell (HP4.out.alloc _).Q 2) (fun hHeld => ?_)
              clear hK K
              refine norm_ (a' := ?_) ?_ ?_
              rotate_left
              · show Act.put _ (some 57) _ = _
                simp only [Act.put, List.setIfInBounds_toArray, List.set_cons_zero, List.set_cons_succ, i64_w, i32_w]
                rfl
              refine one_ (i := 4) (N := some 58) #[true, true, true, true, true, false, false] rfl rfl (by kernel_rfl) (by decide) (fun K hK => ?_)
              refine Kd.R_append_step (Kd.int .i64) (w0 := w) w.heap.size (by rfl) (.tmp 55) (.tmp 57) 33 3 (.int .i64 0) 8 rfl Tryd.underlying33 info3 rfl (by decide) (by omega) (.slice Ao2 (bd_ends l0 j).length co2) (bd_ends l0 j) n [.int .i64 n] (fun _ => True) (fun _ => False) rfl rfl ?aP (fun _ hk => hk.elim) (fun _ _ => trivial) ?aO ?aB ?aS ?aL ?_
              (case aP => exact rfl)
              (case aB => exact HP4.out.B)
              (case aO => exact HP4.out.V2)
              (case aS => exact below_size HP4.out.B)
              (case aL => rw [bd_ends_len]; omega)
              intro v58 W6 ho hb hg hat
              have HP6 := Aside0.mk (HP4.out.app2 ho hb hg)
              clear HP4 ho hb hg hat hHeld
              obtain ⟨Ao58, co58, eo58⟩ := Kd.R_slice HP6.out.V2
              subst eo58
              refine hK.out _ _ (blk_cell HP6.out.Q 2) (fun hHeld => ?_)
              clear hK K
              refine norm_ (a' := ?_) ?_ ?_
              rotate_left
              · show Act.put _ (some 58) _ = _
                simp only [Act.put, List.setIfInBounds_toArray, List.set_cons_zero, List.set_cons_succ, i64_w, i32_w]
                rfl
              refine pure_ (i := 5) (N := some 59) (v := ?_) (a' := ?_) #[true, true, true, true, true, true, false] rfl rfl (by kernel_rfl) (fun _ _ _ h => h) (Or.inl ⟨by rfl, ?_⟩) ?_ ?_
              rotate_left
              · intro w'
                go_simp
                with_reducible rfl
              rotate_left
              · simp only [Act.put, List.setIfInBounds_toArray, List.set_cons_zero, List.set_cons_succ, i64_w, i32_w]
                rfl
              refine last_ (i := 6) (N := none) #[true, true, true, true, true, true, true] rfl rfl (by kernel_rfl) (by decide) (fun K hK => ?_)
              have hfz := blk_frozen HP6.out.Q 2
              refine skip_ (w1 := ?_) (by rfl) rfl ?_ ?_
              rotate_left
              · go_simp
                rfl
              refine hK.out _ _ ?_
              clear hK K
              refine done_ (by kernel_rfl) ?_
              have HP7 := Aside0.mk (HP6.out.set2 hq (.slice Ao58 (bd_ends l0 j ++ [n]).length co58))
              clear hfz hHeld
              try go_wp2
              have ht : bd_text l0 j ++ x.f1.data.toList = bd_text l0 (j + 1) := by
                rw [e1.out, bd_piece_no (by have h := H0.out; rw [Lib.toList_data] at h; unfold bd_nl; rw [h]; rfl)]
              refine ⟨⟨j + 1, by omega, by first | rfl | (simp; done) | go_num, _, _, ⟨bd_close (HP6.out.set2 hq (.slice Ao58 ((bd_ends l0 j).length + 1) co58)) (by simp) (by simp) ht (by rw [e2.out]) (by rw [e3.out, ← ht, HN.out])⟩⟩, by simp [intOf]; omega⟩
            · have h0a : (x.f1.toList == []) = false := beq_eq_false_iff_ne.2 h0
              have h0b : (x.f1.toList != []) = true := bne_iff_ne.2 h0
              have hsf := Aside0.mk (bd_suffix x.f1 hxs h0)
              have H0 := Aside0.mk h0
              clear h0
              by_cases hn : (x.f1.data.toList.getLast? == some 10) = true
              · rw [hn] at hsf
                have HNL := Aside0.mk hn
                clear hn
                go_wp2_with fail
                refine (strings_HasSuffix.calls x.f1 (⟨#[10]⟩ : ByteArray) true W3 hsf.out).mono ?_
                rintro e W3' ⟨rfl, hd⟩
                obtain ⟨nd, rfl⟩ := hd.out
                have HP' := Aside0.mk (HP.out.drewN nd)
                clear HP d1 HF hd
                have HP := HP'
                clear HP'
                generalize W3.drewN nd = W3 at HP ⊢
                go_wp2_with fail
                refine start_ (n := 7) (S := fun w' => w'.cell? ⟨q, 2, none⟩ = some (.slice Ao2 (bd_ends l0 j).length co2)) (ds := [6]) #[false, false, false, false, false, false, false] (by kernel_rfl) rfl rfl (blk_cell HP.out.Q 2) (fun hHeld => ?_)
                have HP4 := Aside0.mk HP.out.drew
                generalize W3.drew = W4 at HP4 hHeld ⊢
                clear HP
                refine pure_ (i := 0) (N := some 54) (v := ?_) (a' := ?_) #[true, false, false, false, false, false, false] rfl rfl (by kernel_rfl) (fun _ _ _ h => h) (Or.inl ⟨by rfl, ?_⟩) ?_ ?_
                rotate_left
                · intro w'
                  go_simp
                  with_reducible rfl
                rotate_left
                · simp only [Act.put, List.setIfInBounds_toArray, List.set_cons_zero, List.set_cons_succ, i64_w, i32_w]
                  rfl
                refine take_ (i := 1) (N := some 55) (v := ?_) (a' := ?_) #[true, true, false, false, false, false, false] rfl rfl (by kernel_rfl) (fun _ _ _ h => h) (Or.inl ⟨by rfl, ?_⟩) hHeld ?_ ?_
                rotate_left
                · rintro w' s0
                  go_simp
                  with_reducible rfl
                rotate_left
                · simp only [Act.put, List.setIfInBounds_toArray, List.set_cons_zero, List.set_cons_succ, i64_w, i32_w]
                  rfl
                refine one_ (i := 2) (N := some 56) #[true, true, true, false, false, false, false] rfl rfl (by kernel_rfl) (by decide) (fun K hK => ?_)
                refine goes_ Tryd.func30 (by kernel_rfl) rfl #[.pointer (some ⟨q + 1, 0, none⟩)] (by rfl) rfl rfl (by (try simp only [List.map_toArray, List.map_cons, List.map_nil]); first | done | rfl) ?_
                obtain ⟨n, hn⟩ : ∃ n : Int, (((bd_text l0 j ++ x.f1.data.toList).length : Nat) : Int) = n := ⟨_, rfl⟩
                have HN := Aside0.mk hn
                refine (show Calls Tryd.prog 30 #[.pointer (some ⟨q + 1, 0, none⟩)] W4 (fun e w' => e = .returned (.int .i64 n) ∧ w' = W4) from hn ▸ Bld.len w.heap.size (q + 1) (bd_text l0 j ++ x.f1.data.toList) W4 HP4.out.D).mono ?_
                clear hn
                rintro e W5 ⟨rfl, rfl⟩
                refine ⟨_, rfl, ?_⟩
                refine hK.out _ _ hHeld (fun hHeld => ?_)
                clear hK K
                refine norm_ (a' := ?_) ?_ ?_
                rotate_left
                · show Act.put _ (some 56) _ = _
                  simp only [Act.put, List.setIfInBounds_toArray, List.set_cons_zero, List.set_cons_succ, i64_w, i32_w]
                  rfl
                refine one_ (i := 3) (N := some 57) #[true, true, true, true, false, false, false] rfl rfl (by kernel_rfl) (by decide) (fun K hK => ?_)
                refine value_ (w1 := ?_) (v := ?_) (by rfl) rfl ?_ ?_
                rotate_left 2
                · go_simp
                  constructor
                  · rfl
                  · rfl
                refine hK.out _ _ (blk_cell (HP4.out.alloc _).Q 2) (fun hHeld => ?_)
                clear hK K
                refine norm_ (a' := ?_) ?_ ?_
                rotate_left
                · show Act.put _ (some 57) _ = _
                  simp only [Act.put, List.setIfInBounds_toArray, List.set_cons_zero, List.set_cons_succ, i64_w, i32_w]
                  rfl
                refine one_ (i := 4) (N := some 58) #[true, true, true, true, true, false, false] rfl rfl (by kernel_rfl) (by decide) (fun K hK => ?_)
                refine Kd.R_append_step (Kd.int .i64) (w0 := w) w.heap.size (by rfl) (.tmp 55) (.tmp 57) 33 3 (.int .i64 0) 8 rfl Tryd.underlying33 info3 rfl (by decide) (by omega) (.slice Ao2 (bd_ends l0 j).length co2) (bd_ends l0 j) n [.int .i64 n] (fun _ => True) (fun _ => False) rfl rfl ?aP (fun _ hk => hk.elim) (fun _ _ => trivial) ?aO ?aB ?aS ?aL ?_
                (case aP => exact rfl)
                (case aB => exact HP4.out.B)
                (case aO => exact HP4.out.V2)
                (case aS => exact below_size HP4.out.B)
                (case aL => rw [bd_ends_len]; omega)
                intro v58 W6 ho hb hg hat
                have HP6 := Aside0.mk (HP4.out.app2 ho hb hg)
                clear HP4 ho hb hg hat hHeld
                obtain ⟨Ao58, co58, eo58⟩ := Kd.R_slice HP6.out.V2
                subst eo58
                refine hK.out _ _ (blk_cell HP6.out.Q 2) (fun hHeld => ?_)
                clear hK K
                refine norm_ (a' := ?_) ?_ ?_
                rotate_left
                · show Act.put _ (some 58) _ = _
                  simp only [Act.put, List.setIfInBounds_toArray, List.set_cons_zero, List.set_cons_succ, i64_w, i32_w]
                  rfl
                refine pure_ (i := 5) (N := some 59) (v := ?_) (a' := ?_) #[true, true, true, true, true, true, false] rfl rfl (by kernel_rfl) (fun _ _ _ h => h) (Or.inl ⟨by rfl, ?_⟩) ?_ ?_
                rotate_left
                · intro w'
                  go_simp
                  with_reducible rfl
                rotate_left
                · simp only [Act.put, List.setIfInBounds_toArray, List.set_cons_zero, List.set_cons_succ, i64_w, i32_w]
                  rfl
                refine last_ (i := 6) (N := none) #[true, true, true, true, true, true, true] rfl rfl (by kernel_rfl) (by decide) (fun K hK => ?_)
                have hfz := blk_frozen HP6.out.Q 2
                refine skip_ (w1 := ?_) (by rfl) rfl ?_ ?_
                rotate_left
                · go_simp
                  rfl
                refine hK.out _ _ ?_
                clear hK K
                refine done_ (by kernel_rfl) ?_
                have HP7 := Aside0.mk (HP6.out.set2 hq (.slice Ao58 (bd_ends l0 j ++ [n]).length co58))
                clear hfz hHeld
                try go_wp2
                have ht : bd_text l0 j ++ x.f1.data.toList = bd_text l0 (j + 1) := by
                  rw [e1.out, bd_piece_no (by unfold bd_nl; rw [HNL.out]; simp)]
                refine ⟨⟨j + 1, by omega, by first | rfl | (simp; done) | go_num, _, _, ⟨bd_close (HP6.out.set2 hq (.slice Ao58 ((bd_ends l0 j).length + 1) co58)) (by simp) (by simp) ht (by rw [e2.out]) (by rw [e3.out, ← ht, HN.out])⟩⟩, by simp [intOf]; omega⟩
              · replace hn := Bool.eq_false_iff.2 hn
                rw [hn] at hsf
                have HNL := Aside0.mk hn
                clear hn
                go_wp2_with fail
                refine (strings_HasSuffix.calls x.f1 (⟨#[10]⟩ : ByteArray) false W3 hsf.out).mono ?_
                rintro e W3' ⟨rfl, hd⟩
                obtain ⟨nd, rfl⟩ := hd.out
                have HP' := Aside0.mk (HP.out.drewN nd)
                clear HP d1 HF hd
                have HP := HP'
                clear HP'
                generalize W3.drewN nd = W3 at HP ⊢
                go_wp2_with fail
                have hl2 : (bd_text l0 j ++ x.f1.data.toList).length ≤ 1000000 := by rw [List.length_append, ← Lib.size_eq]; omega
                refine (Bld.writeByte w.heap.size (q + 1) (bd_text l0 j ++ x.f1.data.toList) 10 W3 HP.out.D (by omega) (below_size HP.out.B)).mono ?_
                rintro e W3' ⟨rfl, hi, hk⟩
                have HP' := Aside0.mk (HP.out.kept hi hk)
                clear HP hi hk
                have HP := HP'
                clear HP'
                clear hsf
                generalize W3' = W3 at HP ⊢
                go_wp2_with fail
                refine start_ (n := 7) (S := fun w' => w'.cell? ⟨q, 2, none⟩ = some (.slice Ao2 (bd_ends l0 j).length co2)) (ds := [6]) #[false, false, false, false, false, false, false] (by kernel_rfl) rfl rfl (blk_cell HP.out.Q 2) (fun hHeld => ?_)
                have HP4 := Aside0.mk HP.out.drew
                generalize W3.drew = W4 at HP4 hHeld ⊢
                clear HP
                refine pure_ (i := 0) (N := some 54) (v := ?_) (a' := ?_) #[true, false, false, false, false, false, false] rfl rfl (by kernel_rfl) (fun _ _ _ h => h) (Or.inl ⟨by rfl, ?_⟩) ?_ ?_
                rotate_left
                · intro w'
                  go_simp
                  with_reducible rfl
                rotate_left
                · simp only [Act.put, List.setIfInBounds_toArray, List.set_cons_zero, List.set_cons_succ, i64_w, i32_w]
                  rfl
                refine take_ (i := 1) (N := some 55) (v := ?_) (a' := ?_) #[true, true, false, false, false, false, false] rfl rfl (by kernel_rfl) (fun _ _ _ h => h) (Or.inl ⟨by rfl, ?_⟩) hHeld ?_ ?_
                rotate_left
                · rintro w' s0
                  go_simp
                  with_reducible rfl
                rotate_left
                · simp only [Act.put, List.setIfInBounds_toArray, List.set_cons_zero, List.set_cons_succ, i64_w, i32_w]
                  rfl
                refine one_ (i := 2) (N := some 56) #[true, true, true, false, false, false, false] rfl rfl (by kernel_rfl) (by decide) (fun K hK => ?_)
                refine goes_ Tryd.func30 (by kernel_rfl) rfl #[.pointer (some ⟨q + 1, 0, none⟩)] (by rfl) rfl rfl (by (try simp only [List.map_toArray, List.map_cons, List.map_nil]); first | done | rfl) ?_
                obtain ⟨n, hn⟩ : ∃ n : Int, ((((bd_text l0 j ++ x.f1.data.toList) ++ [10]).length : Nat) : Int) = n := ⟨_, rfl⟩
                have HN := Aside0.mk hn
                refine (show Calls Tryd.prog 30 #[.pointer (some ⟨q + 1, 0, none⟩)] W4 (fun e w' => e = .returned (.int .i64 n) ∧ w' = W4) from hn ▸ Bld.len w.heap.size (q + 1) ((bd_text l0 j ++ x.f1.data.toList) ++ [10]) W4 HP4.out.D).mono ?_
                clear hn
                rintro e W5 ⟨rfl, rfl⟩
                refine ⟨_, rfl, ?_⟩
                refine hK.out _ _ hHeld (fun hHeld => ?_)
                clear hK K
                refine norm_ (a' := ?_) ?_ ?_
                rotate_left
                · show Act.put _ (some 56) _ = _
                  simp only [Act.put, List.setIfInBounds_toArray, List.set_cons_zero, List.set_cons_succ, i64_w, i32_w]
                  rfl
                refine one_ (i := 3) (N := some 57) #[true, true, true, true, false, false, false] rfl rfl (by kernel_rfl) (by decide) (fun K hK => ?_)
                refine value_ (w1 := ?_) (v := ?_) (by rfl) rfl ?_ ?_
                rotate_left 2
                · go_simp
                  constructor
                  · rfl
                  · rfl
                refine hK.out _ _ (blk_cell (HP4.out.alloc _).Q 2) (fun hHeld => ?_)
                clear hK K
                refine norm_ (a' := ?_) ?_ ?_
                rotate_left
                · show Act.put _ (some 57) _ = _
                  simp only [Act.put, List.setIfInBounds_toArray, List.set_cons_zero, List.set_cons_succ, i64_w, i32_w]
                  rfl
                refine one_ (i := 4) (N := some 58) #[true, true, true, true, true, false, false] rfl rfl (by kernel_rfl) (by decide) (fun K hK => ?_)
                refine Kd.R_append_step (Kd.int .i64) (w0 := w) w.heap.size (by rfl) (.tmp 55) (.tmp 57) 33 3 (.int .i64 0) 8 rfl Tryd.underlying33 info3 rfl (by decide) (by omega) (.slice Ao2 (bd_ends l0 j).length co2) (bd_ends l0 j) n [.int .i64 n] (fun _ => True) (fun _ => False) rfl rfl ?aP (fun _ hk => hk.elim) (fun _ _ => trivial) ?aO ?aB ?aS ?aL ?_
                (case aP => exact rfl)
                (case aB => exact HP4.out.B)
                (case aO => exact HP4.out.V2)
                (case aS => exact below_size HP4.out.B)
                (case aL => rw [bd_ends_len]; omega)
                intro v58 W6 ho hb hg hat
                have HP6 := Aside0.mk (HP4.out.app2 ho hb hg)
                clear HP4 ho hb hg hat hHeld
                obtain ⟨Ao58, co58, eo58⟩ := Kd.R_slice HP6.out.V2
                subst eo58
                refine hK.out _ _ (blk_cell HP6.out.Q 2) (fun hHeld => ?_)
                clear hK K
                refine norm_ (a' := ?_) ?_ ?_
                rotate_left
                · show Act.put _ (some 58) _ = _
                  simp only [Act.put, List.setIfInBounds_toArray, List.set_cons_zero, List.set_cons_succ, i64_w, i32_w]
                  rfl
                refine pure_ (i := 5) (N := some 59) (v := ?_) (a' := ?_) #[true, true, true, true, true, true, false] rfl rfl (by kernel_rfl) (fun _ _ _ h => h) (Or.inl ⟨by rfl, ?_⟩) ?_ ?_
                rotate_left
                · intro w'
                  go_simp
                  with_reducible rfl
                rotate_left
                · simp only [Act.put, List.setIfInBounds_toArray, List.set_cons_zero, List.set_cons_succ, i64_w, i32_w]
                  rfl
                refine last_ (i := 6) (N := none) #[true, true, true, true, true, true, true] rfl rfl (by kernel_rfl) (by decide) (fun K hK => ?_)
                have hfz := blk_frozen HP6.out.Q 2
                refine skip_ (w1 := ?_) (by rfl) rfl ?_ ?_
                rotate_left
                · go_simp
                  rfl
                refine hK.out _ _ ?_
                clear hK K
                refine done_ (by kernel_rfl) ?_
                have HP7 := Aside0.mk (HP6.out.set2 hq (.slice Ao58 (bd_ends l0 j ++ [n]).length co58))
                clear hfz hHeld
                try go_wp2
                have ht : (bd_text l0 j ++ x.f1.data.toList) ++ [10] = bd_text l0 (j + 1) := by
                  rw [e1.out, bd_piece_yes (by have h := H0.out; rw [Lib.toList_data] at h; unfold bd_nl; rw [HNL.out, beq_eq_false_iff_ne.2 h]; rfl), List.append_assoc]
                refine ⟨⟨j + 1, by omega, by first | rfl | (simp; done) | go_num, _, _, ⟨bd_close (HP6.out.set2 hq (.slice Ao58 ((bd_ends l0 j).length + 1) co58)) (by simp) (by simp) ht (by rw [e2.out]) (by rw [e3.out, ← ht, HN.out])⟩⟩, by simp [intOf]; omega⟩
          · obtain rfl : j = l0.length := by omega
            obtain ⟨ef, hef, H2⟩ := Option.bind_eq_some_iff.1 HH.out
            have HE := Aside0.mk hef
            clear HH hef
            obtain ⟨A1, k1, rfl, hk1, hC1⟩ := Kd.R_reads HP.out.V1
            have HK1 := Aside0.mk hk1
            have HC1 := Aside0.mk hC1
            clear hk1 hC1
            have c1 : wr.cell? ⟨q, 1, none⟩ = some (.slice A1 (bd_paths l0 l0.length).length k1) := blk_cell HP.out.Q 1
            go_wp2_with fail
            refine (asset_partsFault.calls k A1 k1 (bd_paths l0 l0.length) ef wr HC1.out HK1.out HE.out).mono ?_
            rintro e W1 ⟨rfl, hb⟩
            have HP1 := Aside0.mk (HP.out.below hb)
            clear HP hb c1 HC1
            have hlA : w.heap.size < W1.heap.size := blk_lt HP1.out.A
            by_cases he : ef = 0
            · subst he
              rw [if_pos rfl] at H2
              have H2 := Aside0.mk H2
              go_wp2_with fail
              refine (Bld.string w.heap.size (q + 1) (bd_text l0 l0.length) W1 HP1.out.D (below_size HP1.out.B)).mono ?_
              rintro e W2 ⟨rfl, hi, hk⟩
              have HP2 := Aside0.mk (HP1.out.kept hi hk)
              clear HP1 hi hk hlA
              obtain ⟨bd, hbd⟩ : ∃ bd : ByteArray, bd = ⟨(bd_text l0 l0.length).toArray⟩ := ⟨_, rfl⟩
              have hsz : bd.size = (bd_text l0 l0.length).length := by rw [hbd]; simp [ByteArray.size]
              rw [← hsz, ← hbd] at H2
              rw [← hbd]
              clear hsz hbd
              have d0 : W2.cell? ⟨q, 0, none⟩ = some (.string ⟨#[]⟩) := blk_cell HP2.out.Q 0
              have g0 : W2.frozen? ⟨q, 0, none⟩ = false := blk_frozen HP2.out.Q 0
              have HQ := Aside0.mk (blk_put HP2.out.Q 0 (.string bd) rfl)
              have HA := Aside0.mk (blk_far HP2.out.A (p := ⟨q, 0, none⟩) (show w.heap.size ≠ q by omega) (.string bd))
              have HB := Aside0.mk (below_set (j := 0) (v := .string bd) HP2.out.B (show w.heap.size ≤ q by omega))
              have s := Bld.stays_set HP2.out.Q 0 (.string bd)
              have HV1 := Aside0.mk (Bld.r_stays HP2.out.V1 s (by decide))
              have HV2 := Aside0.mk (Bld.r_stays HP2.out.V2 s (by decide))
              clear s
              obtain ⟨A2, k2, hv2⟩ := Kd.R_slice HP2.out.V2
              subst hv2
              have hne : w.heap.size ≠ q := by omega
              have hne' : q ≠ w.heap.size := by omega
              have q0 : W2.cell? ⟨w.heap.size, 0, none⟩ = some (.string ⟨#[]⟩) := blk_cell HP2.out.A 0
              have q1 : W2.cell? ⟨w.heap.size, 1, none⟩ = some (.slice none 0 0) := blk_cell HP2.out.A 1
              have q2 : W2.cell? ⟨w.heap.size, 2, none⟩ = some (.slice none 0 0) := blk_cell HP2.out.A 2
              have f0 := blk_frozen HP2.out.A 0
              have f1 := blk_frozen HP2.out.A 1
              have f2 := blk_frozen HP2.out.A 2
              have d1 : W2.cell? ⟨q, 1, none⟩ = some (.slice A1 (bd_paths l0 l0.length).length k1) := blk_cell HP2.out.Q 1
              have d2 : W2.cell? ⟨q, 2, none⟩ = some (.slice A2 (bd_ends l0 l0.length).length k2) := blk_cell HP2.out.Q 2
              have hlA : w.heap.size < W2.heap.size := blk_lt HP2.out.A
              have hlQ : q < W2.heap.size := blk_lt HP2.out.Q
              by_cases hbig : 200000 < bd.size
              · have H3 := H2.out
                rw [if_pos hbig] at H3
                simp only [Option.some.injEq, Prod.mk.injEq] at H3
                obtain ⟨rfl, rfl, rfl, rfl⟩ := H3
                have hbig' : (200000 : Int) < (bd.size : Int) := by omega
                clear hbig
                go_wp2_with fail
                refine bodyPost_ret (results_ct rfl _ _ w.heap.size 35 #[.string ⟨#[]⟩, .slice none 0 0, .slice none 0 0] (0, 0) _ rfl (by refine blk_put (cs := #[.string ⟨#[]⟩, .slice none 0 0, .slice none 0 0]) ?_ 2 _ rfl; refine blk_put (cs := #[.string ⟨#[]⟩, .slice none 0 0, .slice none 0 0]) ?_ 1 _ rfl; refine blk_put (cs := #[.string ⟨#[]⟩, .slice none 0 0, .slice none 0 0]) ?_ 0 _ rfl; exact HA.out) Tryd.underlying35 rfl (by kernel_rfl)) rfl ?_
                exact ⟨_, _, rfl, Kd.R_nil _ _ _ _ _, Kd.R_nil _ _ _ _ _, (by repeat (first | exact HB.out | apply below_alloc | refine below_set ?_ (Nat.le_refl _)))⟩
              · have H3 := H2.out
                rw [if_neg hbig] at H3
                simp only [Option.some.injEq, Prod.mk.injEq] at H3
                obtain ⟨rfl, rfl, rfl, rfl⟩ := H3
                have hbig' : (bd.size : Int) ≤ 200000 := by omega
                clear hbig
                go_wp2_with fail
                refine bodyPost_ret (results_ct rfl _ _ w.heap.size 35 #[.string bd, .slice A1 (bd_paths l0 l0.length).length k1, .slice A2 (bd_ends l0 l0.length).length k2] (0, 0) _ rfl (by refine blk_put (cs := #[.string bd, .slice A1 (bd_paths l0 l0.length).length k1, .slice none 0 0]) ?_ 2 _ rfl; refine blk_put (cs := #[.string bd, .slice none 0 0, .slice none 0 0]) ?_ 1 _ rfl; refine blk_put (cs := #[.string ⟨#[]⟩, .slice none 0 0, .slice none 0 0]) ?_ 0 _ rfl; exact HA.out) Tryd.underlying35 rfl (by kernel_rfl)) rfl ?_
                have z0 := Bld.stays_set HA.out 0 (.string bd)
                have a0 := blk_put HA.out 0 (.string bd) rfl
                have z1 := Bld.stays_set a0 1 (.slice A1 (bd_paths l0 l0.length).length k1)
                have a1 := blk_put a0 1 (.slice A1 (bd_paths l0 l0.length).length k1) rfl
                have z2 := Bld.stays_set a1 2 (.slice A2 (bd_ends l0 l0.length).length k2)
                exact ⟨_, _, rfl, Bld.r_stays (Bld.r_stays (Bld.r_stays HV1.out z0 (by decide)) z1 (by decide)) z2 (by decide), Bld.r_stays (Bld.r_stays (Bld.r_stays HV2.out z0 (by decide)) z1 (by decide)) z2 (by decide), (by repeat (first | exact HB.out | apply below_alloc | refine below_set ?_ (Nat.le_refl _)))⟩
            · rw [if_neg he] at H2
              simp only [Option.some.injEq, Prod.mk.injEq] at H2
              obtain ⟨rfl, rfl, rfl, rfl⟩ := H2
              have q0 : W1.cell? ⟨w.heap.size, 0, none⟩ = some (.string ⟨#[]⟩) := blk_cell HP1.out.A 0
              have q1 : W1.cell? ⟨w.heap.size, 1, none⟩ = some (.slice none 0 0) := blk_cell HP1.out.A 1
              have q2 : W1.cell? ⟨w.heap.size, 2, none⟩ = some (.slice none 0 0) := blk_cell HP1.out.A 2
              have f0 := blk_frozen HP1.out.A 0
              have f1 := blk_frozen HP1.out.A 1
              have f2 := blk_frozen HP1.out.A 2
              have he1 : (ef == 0) = false := beq_eq_false_iff_ne.2 he
              have he2 : (ef != 0) = true := bne_iff_ne.2 he
              go_wp2_with fail
              refine bodyPost_ret (results_ct rfl _ _ w.heap.size 35 #[.string ⟨#[]⟩, .slice none 0 0, .slice none 0 0] (0, 0) _ rfl (by refine blk_put (cs := #[.string ⟨#[]⟩, .slice none 0 0, .slice none 0 0]) ?_ 2 _ rfl; refine blk_put (cs := #[.string ⟨#[]⟩, .slice none 0 0, .slice none 0 0]) ?_ 1 _ rfl; refine blk_put (cs := #[.string ⟨#[]⟩, .slice none 0 0, .slice none 0 0]) ?_ 0 _ rfl; exact HP1.out.A) Tryd.underlying35 rfl (by kernel_rfl)) rfl ?_
              exact ⟨_, _, rfl, Kd.R_nil _ _ _ _ _, Kd.R_nil _ _ _ _ _, (by repeat (first | exact HP1.out.B | apply below_alloc | refine below_set ?_ (Nat.le_refl _)))⟩

end Go.Proofs.YthagabjcoknogaaDoor.PAssetJoined
