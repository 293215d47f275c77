-- Made for this claim by a program of this session (xprint.py over the kit's printing program); Lean checks it.
import Derived.Test.YthagabjcoknogaaDoorPAssetJoinedx0
import Derived.Test.YthagabjcoknogaaDoorPAssetJoinedx2
import Derived.Test.YthagabjcoknogaaDoorPAssetJoinedx5
namespace Go.Proofs.YthagabjcoknogaaDoor.PAssetJoined
open Go.RowKit Go.Proofs.YthagabjcoknogaaDoorW.PrintWords Go.Proofs.YthagabjcoknogaaDoorW.PrintLast Go.Proofs.YthagabjcoknogaaDoorW.PrintMore
attribute [local go_sem] max2_int min2_int max_two min_two max_three min_three max_four min_four   -- for this text's walks alone
set_option linter.unusedVariables false
set_option linter.unusedSimpArgs false

/-! ### asset_ReadMap: function 15 -/
structure RmAt (w : World) (q : Nat) (u1 u2 v1 v2 : Value) (ps : List ByteArray) (es : List Int) (W : World) : Prop where
  Q : W.heap[q]? = some (.cells #[.string ⟨#[]⟩, u1, u2] 35 (0, 0))
  A : W.heap[w.heap.size]? = some (.cells #[.string ⟨#[]⟩, .slice none 0 0, .slice none 0 0] 35 (0, 0))
  B : Below w.heap.size w W
  V1 : Kd.R Kd.string 9 W w.heap.size (fun _ => True) v1 ps
  V2 : Kd.R (Kd.int .i64) 3 W w.heap.size (fun _ => True) v2 es
section
variable {w W W1 : World} {q : Nat} {u1 u2 v1 v2 : Value} {ps : List ByteArray} {es : List Int}
theorem RmAt.below (h : RmAt w q u1 u2 v1 v2 ps es W) (hb : Below W.heap.size W W1) : RmAt w q u1 u2 v1 v2 ps es W1 :=
  ⟨blk_below h.Q hb, blk_below h.A hb, below_step h.B hb, Kd.R_below h.V1 hb, Kd.R_below h.V2 hb⟩
theorem RmAt.alloc (h : RmAt w q u1 u2 v1 v2 ps es W) (o : Obj) : RmAt w q u1 u2 v1 v2 ps es (W.alloc o) := h.below (below_alloc (Below.refl _ _) o)
theorem RmAt.drew (h : RmAt w q u1 u2 v1 v2 ps es W) : RmAt w q u1 u2 v1 v2 ps es W.drew := h.below (below_drew (Below.refl _ _))
theorem RmAt.drewN (h : RmAt w q u1 u2 v1 v2 ps es W) (n : Nat) : RmAt w q u1 u2 v1 v2 ps es (W.drewN n) := h.below (pw_below_drewN (Below.refl _ _) n)
theorem RmAt.app1 {v : Value} {ps' : List ByteArray} (h : RmAt w q u1 u2 v1 v2 ps es W) (ho : Kd.R Kd.string 9 W1 w.heap.size (fun _ => True) v ps') (hb : Below w.heap.size w W1) (hg : W.grownBy W1 v1.ownBlock) : RmAt w q u1 u2 v v2 ps' es W1 := by
  have s := Bld.stays_grown h.V1 hg
  exact ⟨Bld.blk_stays h.Q s (by decide), Bld.blk_stays h.A s (by decide), hb, ho, Bld.r_stays h.V2 s (by decide)⟩
theorem RmAt.app2 {v : Value} {es' : List Int} (h : RmAt w q u1 u2 v1 v2 ps es W) (ho : Kd.R (Kd.int .i64) 3 W1 w.heap.size (fun _ => True) v es') (hb : Below w.heap.size w W1) (hg : W.grownBy W1 v2.ownBlock) : RmAt w q u1 u2 v1 v ps es' W1 := by
  have s := Bld.stays_grown h.V2 hg
  exact ⟨Bld.blk_stays h.Q s (by decide), Bld.blk_stays h.A s (by decide), hb, Bld.r_stays h.V1 s (by decide), ho⟩
theorem RmAt.set1 (h : RmAt w q u1 u2 v1 v2 ps es W) (hq : w.heap.size < q) (v : Value) : RmAt w q v u2 v1 v2 ps es (W.setCell ⟨q, 1, none⟩ v) := by
  have s := Bld.stays_set h.Q 1 v
  exact ⟨blk_put h.Q 1 v rfl, blk_far h.A (p := ⟨q, 1, none⟩) (show w.heap.size ≠ q by omega) v, below_set h.B (by omega), Bld.r_stays h.V1 s (by decide), Bld.r_stays h.V2 s (by decide)⟩
theorem RmAt.set2 (h : RmAt w q u1 u2 v1 v2 ps es W) (hq : w.heap.size < q) (v : Value) : RmAt w q u1 v v1 v2 ps es (W.setCell ⟨q, 2, none⟩ v) := by
  have s := Bld.stays_set h.Q 2 v
  exact ⟨blk_put h.Q 2 v rfl, blk_far h.A (p := ⟨q, 2, none⟩) (show w.heap.size ≠ q by omega) v, below_set h.B (by omega), Bld.r_stays h.V1 s (by decide), Bld.r_stays h.V2 s (by decide)⟩
end
theorem rm_close {w W : World} {q n1 n2 m1 m2 c1 c2 : Nat} {A1 A2 : Option Addr} {ps : List ByteArray} {es : List Int} (h : RmAt w q (.slice A1 n1 c1) (.slice A2 n2 c2) (.slice A1 m1 c1) (.slice A2 m2 c2) ps es W) (e1 : n1 = m1) (e2 : n2 = m2) :
    RmAt w q (.slice A1 m1 c1) (.slice A2 m2 c2) (.slice A1 m1 c1) (.slice A2 m2 c2) ps es W := by
  subst e1 e2; exact h
/-- a row of one element, in a block of its own -/
theorem rm_one {α : Type} {enc : α → Value} {h1 : ∀ x, (enc x).oneCell' = true} {W : World} {g t : Nat} {x : α} (h : W.heap[g]? = some (.cells #[enc x] t (0, 0))) (c : Nat) : (Kd.scalar enc h1).C W (some ⟨g, 0, none⟩) 1 [x] := by
  refine ⟨rfl, by omega, fun _ => ⟨_, rfl, fun j p hj => ?_⟩⟩
  match j, hj with
  | 0, hj =>
    injection hj with hj
    subst hj
    refine ⟨[enc x], rfl, rfl, fun i u hi => ?_⟩
    match i, hi with
    | 0, hi =>
      injection hi with hi
      subst hi
      have := blk_cell h 0
      simpa [Addr.add] using this
abbrev RmR := ByteArray × List ByteArray × List Int × Int
def rm_end (k : Nat) (sum : Int) (ps : List ByteArray) (es : List Int) : Option RmR :=
  if 40 < ps.length then some (⟨#[]⟩, [], [], 4) else if 200000 < sum then some (⟨#[]⟩, [], [], 4) else
  (asset_partsFault.f k ps).bind fun e => if e = 0 then some (⟨#[]⟩, ps, es, 0) else some (⟨#[]⟩, [], [], e)
def asset_ReadMap.l : Nat → ByteArray → Int → List ByteArray → List Int → Option RmR
  | 0, _, _, _, _ => none
  | k + 1, s, sum, ps, es => if s.toList = [] then rm_end k sum ps es else
    if s.size ≤ 20000 ∧ ps.length ≤ 20000 ∧ es.length = ps.length ∧ 0 ≤ sum ∧ sum ≤ 400000 then
    (strings_Cut.f s (⟨#[10]⟩ : ByteArray)).bind fun t => (strings_Cut.f t.1 (⟨#[32]⟩ : ByteArray)).bind fun u => (asset_read32.f k u.2.1).bind fun n =>
      if 0 ≤ n.1 ∧ n.1 ≤ 400000 then
        if t.2.2 = true ∧ u.2.2 = true ∧ n.2 = true ∧ ¬ u.1.toList = [] then asset_ReadMap.l k t.2.1 (min (sum + n.1) 400000) (ps ++ [u.1]) (es ++ [min (sum + n.1) 400000])
        else some (⟨#[]⟩, [], [], 8)
      else none
    else none
def asset_ReadMap.f (k : Nat) (a0 : ByteArray) : Option RmR := if 20000 < a0.size then some (⟨#[]⟩, [], [], 4) else asset_ReadMap.l k a0 0 [] []
theorem rm_end_mono (k : Nat) (sum : Int) (ps : List ByteArray) (es : List Int) : LeO (rm_end k sum ps es) (rm_end (k + 1) sum ps es) := by
  unfold rm_end
  split
  · exact LeO.refl _
  · split
    · exact LeO.refl _
    · exact LeO.bind (asset_partsFault.mono _ _) (fun _ => LeO.refl _)
theorem rm_mono : ∀ k s sum ps es, LeO (asset_ReadMap.l k s sum ps es) (asset_ReadMap.l (k + 1) s sum ps es)
  | 0, _, _, _, _ => fun r h => by simp [asset_ReadMap.l] at h
  | k + 1, s, sum, ps, es => by
    unfold asset_ReadMap.l
    split
    · exact rm_end_mono _ _ _ _
    · split
      · refine LeO.bind (LeO.refl _) (fun t => LeO.bind (LeO.refl _) (fun u => LeO.bind (asset_read32.mono _ _) (fun n => ?_)))
        split
        · split
          · exact rm_mono k _ _ _ _
          · exact LeO.refl _
        · exact LeO.refl _
      · exact LeO.refl _
theorem asset_ReadMap.mono : ∀ a0 k, LeO (asset_ReadMap.f k a0) (asset_ReadMap.f (k + 1) a0) := by
  intro a0 k
  unfold asset_ReadMap.f
  split
  · exact LeO.refl _
  · exact rm_mono _ _ _ _ _
set_option maxHeartbeats 2000000 in
set_option maxRecDepth 100000 in
theorem asset_ReadMap.calls (k : Nat) (a0 : ByteArray) (r1 : ByteArray) (r2 : List ByteArray) (r3 : List Int) (r4 : Int) (w : World) (h : asset_ReadMap.f k a0 = some (r1, r2, r3, r4)) :
    Calls Tryd.prog 15 #[.string a0] w fun e w' => ∃ v1_ v2_ : Value, e = .returned (.tuple #[.agg #[.string r1, v1_, v2_], .int .i64 r4]) ∧ Kd.R Kd.string 9 w' w.heap.size (fun _ => True) v1_ r2 ∧ Kd.R (Kd.int .i64) 3 w' w.heap.size (fun _ => True) v2_ r3 ∧ Below w.heap.size w w' := by
  unfold asset_ReadMap.f at h
  have hu_b := Tryd.underlying35
  by_cases h2 : 20000 < a0.size
  · rw [if_pos h2] at h
    simp only [Option.some.injEq, Prod.mk.injEq] at h
    obtain ⟨rfl, rfl, rfl, rfl⟩ := h
    have h2' : (20000 : Int) < (a0.size : Int) := by omega
    clear h2
    have HA := Aside0.mk (blk_new w (.cells #[.string ⟨#[]⟩, .slice none 0 0, .slice none 0 0] 35 (0, 0)))
    have HB := Aside0.mk (below_alloc (Below.refl w.heap.size w) (.cells #[.string ⟨#[]⟩, .slice none 0 0, .slice none 0 0] 35 (0, 0)))
    go_enter Tryd.func15, Tryd.ntmps15
    go_wp2_with fail
    refine bodyPost_ret (results_ct rfl _ _ w.heap.size 35 #[.string ⟨#[]⟩, .slice none 0 0, .slice none 0 0] (0, 0) _ rfl (by exact HA.out) Tryd.underlying35 rfl (by kernel_rfl)) rfl ?_
    exact ⟨_, _, rfl, Kd.R_nil _ _ _ _ _, Kd.R_nil _ _ _ _ _, (by repeat (first | exact HB.out | apply below_alloc | refine below_set ?_ (Nat.le_refl _)))⟩
  · rw [if_neg h2] at h
    have H := Aside0.mk h
    clear h
    have h2' : (a0.size : Int) ≤ 20000 := by omega
    clear h2
    go_enter Tryd.func15, Tryd.ntmps15
    go_wp2_with fail
    have HP0 := Aside0.mk (show RmAt w (w.heap.size + 1) (.slice none 0 0) (.slice none 0 0) (.slice none 0 0) (.slice none 0 0) [] [] ((w.alloc (.cells #[.string ⟨#[]⟩, .slice none 0 0, .slice none 0 0] 35)).alloc (.cells #[.string ⟨#[]⟩, .slice none 0 0, .slice none 0 0] 35)) from
      ⟨by have := blk_new (w.alloc (.cells #[.string ⟨#[]⟩, .slice none 0 0, .slice none 0 0] 35)) (.cells #[.string ⟨#[]⟩, .slice none 0 0, .slice none 0 0] 35); simpa using this, blk_alloc (blk_new _ _) _, below_alloc (below_alloc (Below.refl _ _) _) _, Kd.R_nil _ _ _ _ _, Kd.R_nil _ _ _ _ _⟩)
    have hq : w.heap.size < w.heap.size + 1 := Nat.lt_succ_self _
    generalize ((w.alloc (.cells #[.string ⟨#[]⟩, .slice none 0 0, .slice none 0 0] 35)).alloc (.cells #[.string ⟨#[]⟩, .slice none 0 0, .slice none 0 0] 35)) = w0 at HP0 ⊢
    generalize w.heap.size + 1 = q at HP0 hq ⊢
    clear h2'
    go_loopg [0, 5] k (fun kq i z W => ∃ (s : ByteArray) (sum : Int) (v1 v2 : Value) (ps : List ByteArray) (es : List Int), i = .string s ∧ z = .int .i64 sum ∧ Aside0 (asset_ReadMap.l kq s sum ps es = some (r1, r2, r3, r4)) ∧ Aside0 (kq ≤ k) ∧ Aside0 (RmAt w q v1 v2 v1 v2 ps es W))
    case atStart => exact ⟨a0, 0, _, _, [], [], rfl, rfl, H, ⟨Nat.le_refl _⟩, HP0⟩
    case round =>
      clear H HP0
      obtain ⟨s, sum, v1, v2, ps, es, rfl, rfl, H, HK1, HP⟩ := hrel
      cases gk with
      | zero => exact absurd H.out (by simp [asset_ReadMap.l])
      | succ k1 =>
        have H1 := H.out
        clear H
        simp only [asset_ReadMap.l] at H1
        by_cases hs : s.toList = []
        · rw [if_pos hs] at H1
          unfold rm_end at H1
          have hs1 : (s.toList == []) = true := beq_iff_eq.2 hs
          have hs2 : (s.toList != []) = false := bne_eq_false_iff_eq.2 hs
          clear hs
          obtain ⟨B1, d1, rfl, hd1, hC1⟩ := Kd.R_reads HP.out.V1
          obtain ⟨B2, d2, ev⟩ := Kd.R_slice HP.out.V2
          subst ev
          have HD1 := Aside0.mk hd1
          have HC1 := Aside0.mk hC1
          clear hd1 hC1
          have c1 : wr.cell? ⟨q, 1, none⟩ = some (.slice B1 ps.length d1) := blk_cell HP.out.Q 1
          by_cases h40 : 40 < ps.length
          · rw [if_pos h40] at H1
            simp only [Option.some.injEq, Prod.mk.injEq] at H1
            obtain ⟨rfl, rfl, rfl, rfl⟩ := H1
            have h40' : (40 : Int) < (ps.length : Int) := by omega
            clear h40
            have q0 : wr.cell? ⟨w.heap.size, 0, none⟩ = some (.string ⟨#[]⟩) := blk_cell HP.out.A 0
            have q1 : wr.cell? ⟨w.heap.size, 1, none⟩ = some (.slice none 0 0) := blk_cell HP.out.A 1
            have q2 : wr.cell? ⟨w.heap.size, 2, none⟩ = some (.slice none 0 0) := blk_cell HP.out.A 2
            have f0 := blk_frozen HP.out.A 0
            have f1 := blk_frozen HP.out.A 1
            have f2 := blk_frozen HP.out.A 2
            have hwl : w.heap.size < wr.heap.size := blk_lt HP.out.A
            go_wp2_with fail
            refine bodyPost_ret (results_ct rfl _ _ w.heap.size 35 #[.string ⟨#[]⟩, .slice none 0 0, .slice none 0 0] (0, 0) _ rfl (by (try refine blk_alloc ?_ _); refine blk_put (cs := #[.string ⟨#[]⟩, .slice none 0 0, .slice none 0 0]) ?_ 2 _ rfl; refine blk_put (cs := #[.string ⟨#[]⟩, .slice none 0 0, .slice none 0 0]) ?_ 1 _ rfl; refine blk_put (cs := #[.string ⟨#[]⟩, .slice none 0 0, .slice none 0 0]) ?_ 0 _ rfl; first | exact HP.out.A | exact blk_alloc HP.out.A _) Tryd.underlying35 rfl (by kernel_rfl)) rfl ?_
            exact ⟨_, _, rfl, Kd.R_nil _ _ _ _ _, Kd.R_nil _ _ _ _ _, (by repeat (first | exact HP.out.B | apply below_alloc | refine below_set ?_ (Nat.le_refl _)))⟩
          · rw [if_neg h40] at H1
            have h40' : (ps.length : Int) ≤ 40 := by omega
            clear h40
            by_cases hbig : 200000 < sum
            · rw [if_pos hbig] at H1
              simp only [Option.some.injEq, Prod.mk.injEq] at H1
              obtain ⟨rfl, rfl, rfl, rfl⟩ := H1
              have q0 : wr.cell? ⟨w.heap.size, 0, none⟩ = some (.string ⟨#[]⟩) := blk_cell HP.out.A 0
              have q1 : wr.cell? ⟨w.heap.size, 1, none⟩ = some (.slice none 0 0) := blk_cell HP.out.A 1
              have q2 : wr.cell? ⟨w.heap.size, 2, none⟩ = some (.slice none 0 0) := blk_cell HP.out.A 2
              have f0 := blk_frozen HP.out.A 0
              have f1 := blk_frozen HP.out.A 1
              have f2 := blk_frozen HP.out.A 2
              have hwl : w.heap.size < wr.heap.size := blk_lt HP.out.A
              go_wp2_with fail
              refine bodyPost_ret (results_ct rfl _ _ w.heap.size 35 #[.string ⟨#[]⟩, .slice none 0 0, .slice none 0 0] (0, 0) _ rfl (by (try refine blk_alloc ?_ _); refine blk_put (cs := #[.string ⟨#[]⟩, .slice none 0 0, .slice none 0 0]) ?_ 2 _ rfl; refine blk_put (cs := #[.string ⟨#[]⟩, .slice none 0 0, .slice none 0 0]) ?_ 1 _ rfl; refine blk_put (cs := #[.string ⟨#[]⟩, .slice none 0 0, .slice none 0 0]) ?_ 0 _ rfl; first | exact HP.out.A | exact blk_alloc HP.out.A _) Tryd.underlying35 rfl (by kernel_rfl)) rfl ?_
              exact ⟨_, _, rfl, Kd.R_nil _ _ _ _ _, Kd.R_nil _ _ _ _ _, (by repeat (first | exact HP.out.B | apply below_alloc | refine below_set ?_ (Nat.le_refl _)))⟩
            · rw [if_neg hbig] at H1
              have hbig' : sum ≤ 200000 := by omega
              clear hbig
              obtain ⟨ef, hef, H2⟩ := Option.bind_eq_some_iff.1 H1
              clear H1
              have HE := Aside0.mk hef
              have H3 := Aside0.mk H2
              clear hef H2
              go_wp2_with fail
              refine (asset_partsFault.calls k1 B1 d1 ps ef wr HC1.out HD1.out HE.out).mono ?_
              rintro e W1 ⟨rfl, hb⟩
              have HP1 := Aside0.mk (HP.out.below hb)
              clear HP hb c1 HC1 hs1 hs2 hbig' h40'
              have H1 := H3.out
              by_cases he : ef = 0
              · subst he
                rw [if_pos rfl] at H1
                simp only [Option.some.injEq, Prod.mk.injEq] at H1
                obtain ⟨rfl, rfl, rfl, rfl⟩ := H1
                have hne : w.heap.size ≠ q := by omega
                have hne' : q ≠ w.heap.size := by omega
                have q0 : W1.cell? ⟨w.heap.size, 0, none⟩ = some (.string ⟨#[]⟩) := blk_cell HP1.out.A 0
                have q1 : W1.cell? ⟨w.heap.size, 1, none⟩ = some (.slice none 0 0) := blk_cell HP1.out.A 1
                have q2 : W1.cell? ⟨w.heap.size, 2, none⟩ = some (.slice none 0 0) := blk_cell HP1.out.A 2
                have f0 := blk_frozen HP1.out.A 0
                have f1 := blk_frozen HP1.out.A 1
                have f2 := blk_frozen HP1.out.A 2
                have hwl : w.heap.size < W1.heap.size := blk_lt HP1.out.A
                have hlQ : q < W1.heap.size := blk_lt HP1.out.Q
                have d0 : W1.cell? ⟨q, 0, none⟩ = some (.string ⟨#[]⟩) := blk_cell HP1.out.Q 0
                have e1 : W1.cell? ⟨q, 1, none⟩ = some (.slice B1 ps.length d1) := blk_cell HP1.out.Q 1
                have e2 : W1.cell? ⟨q, 2, none⟩ = some (.slice B2 es.length d2) := blk_cell HP1.out.Q 2
                go_wp2_with fail
                refine bodyPost_ret (results_ct rfl _ _ w.heap.size 35 #[.string ⟨#[]⟩, .slice B1 ps.length d1, .slice B2 es.length d2] (0, 0) _ rfl (by (try refine blk_alloc ?_ _); refine blk_put (cs := #[.string ⟨#[]⟩, .slice B1 ps.length d1, .slice none 0 0]) ?_ 2 _ rfl; refine blk_put (cs := #[.string ⟨#[]⟩, .slice none 0 0, .slice none 0 0]) ?_ 1 _ rfl; refine blk_put (cs := #[.string ⟨#[]⟩, .slice none 0 0, .slice none 0 0]) ?_ 0 _ rfl; first | exact HP1.out.A | exact blk_alloc HP1.out.A _) Tryd.underlying35 rfl (by kernel_rfl)) rfl ?_
                have z0 := Bld.stays_set HP1.out.A 0 (.string ⟨#[]⟩)
                have a0 := blk_put HP1.out.A 0 (.string ⟨#[]⟩) rfl
                have z1 := Bld.stays_set a0 1 (.slice B1 ps.length d1)
                have a1 := blk_put a0 1 (.slice B1 ps.length d1) rfl
                have z2 := Bld.stays_set a1 2 (.slice B2 es.length d2)
                exact ⟨_, _, rfl, Bld.r_stays (Bld.r_stays (Bld.r_stays HP1.out.V1 z0 (by decide)) z1 (by decide)) z2 (by decide), Bld.r_stays (Bld.r_stays (Bld.r_stays HP1.out.V2 z0 (by decide)) z1 (by decide)) z2 (by decide), (by repeat (first | exact HP1.out.B | apply below_alloc | refine below_set ?_ (Nat.le_refl _)))⟩
              · rw [if_neg he] at H1
                simp only [Option.some.injEq, Prod.mk.injEq] at H1
                obtain ⟨rfl, rfl, rfl, rfl⟩ := H1
                have he1 : (ef == 0) = false := beq_eq_false_iff_ne.2 he
                have he2 : (ef != 0) = true := bne_iff_ne.2 he
                have q0 : W1.cell? ⟨w.heap.size, 0, none⟩ = some (.string ⟨#[]⟩) := blk_cell HP1.out.A 0
                have q1 : W1.cell? ⟨w.heap.size, 1, none⟩ = some (.slice none 0 0) := blk_cell HP1.out.A 1
                have q2 : W1.cell? ⟨w.heap.size, 2, none⟩ = some (.slice none 0 0) := blk_cell HP1.out.A 2
                have f0 := blk_frozen HP1.out.A 0
                have f1 := blk_frozen HP1.out.A 1
                have f2 := blk_frozen HP1.out.A 2
                have hwl : w.heap.size < W1.heap.size := blk_lt HP1.out.A
                go_wp2_with fail
                refine bodyPost_ret (results_ct rfl _ _ w.heap.size 35 #[.string ⟨#[]⟩, .slice none 0 0, .slice none 0 0] (0, 0) _ rfl (by (try refine blk_alloc ?_ _); refine blk_put (cs := #[.string ⟨#[]⟩, .slice none 0 0, .slice none 0 0]) ?_ 2 _ rfl; refine blk_put (cs := #[.string ⟨#[]⟩, .slice none 0 0, .slice none 0 0]) ?_ 1 _ rfl; refine blk_put (cs := #[.string ⟨#[]⟩, .slice none 0 0, .slice none 0 0]) ?_ 0 _ rfl; first | exact HP1.out.A | exact blk_alloc HP1.out.A _) Tryd.underlying35 rfl (by kernel_rfl)) rfl ?_
                exact ⟨_, _, rfl, Kd.R_nil _ _ _ _ _, Kd.R_nil _ _ _ _ _, (by repeat (first | exact HP1.out.B | apply below_alloc | refine below_set ?_ (Nat.le_refl _)))⟩
        · rw [if_neg hs] at H1
          have hs1 : (s.toList == []) = false := beq_eq_false_iff_ne.2 hs
          have hs2 : (s.toList != []) = true := bne_iff_ne.2 hs
          clear hs
          by_cases hg : s.size ≤ 20000 ∧ ps.length ≤ 20000 ∧ es.length = ps.length ∧ 0 ≤ sum ∧ sum ≤ 400000
          case neg => rw [if_neg hg] at H1; exact absurd H1 (by simp)
          rw [if_pos hg] at H1
          obtain ⟨g1, g2, g3, g4, g5⟩ := hg
          obtain ⟨⟨line, rest, ok⟩, hc1, H2⟩ := Option.bind_eq_some_iff.1 H1
          clear H1
          obtain ⟨⟨path, size, two⟩, hc2, H3⟩ := Option.bind_eq_some_iff.1 H2
          clear H2
          obtain ⟨⟨n, right⟩, hc3, H1⟩ := Option.bind_eq_some_iff.1 H3
          clear H3
          have HC1 := Aside0.mk hc1
          have HC2 := Aside0.mk hc2
          have HC3 := Aside0.mk hc3
          have GG := Aside0.mk g3
          have H := Aside0.mk H1
          clear H1 hc1 hc2 hc3 g3
          go_wp2_with fail
          refine (strings_Cut.calls s (⟨#[10]⟩ : ByteArray) line rest ok wr HC1.out).mono ?_
          rintro e W1 ⟨rfl, hd⟩
          obtain ⟨nd, rfl⟩ := hd.out
          have HP1 := Aside0.mk (HP.out.drewN nd)
          clear HP hd hs1 hs2
          generalize wr.drewN nd = W1 at HP1 ⊢
          go_wp2_with fail
          refine (strings_Cut.calls line (⟨#[32]⟩ : ByteArray) path size two W1 HC2.out).mono ?_
          rintro e W2 ⟨rfl, hd⟩
          obtain ⟨nd, rfl⟩ := hd.out
          have HP := Aside0.mk (HP1.out.drewN nd)
          clear HP1 hd
          generalize W1.drewN nd = W2 at HP ⊢
          go_wp2_with fail
          refine (asset_read32.calls k1 size n right W2 HC3.out).mono ?_
          rintro e W3 ⟨rfl, hb⟩
          have HP1 := Aside0.mk (HP.out.below hb)
          clear HP hb
          by_cases hn : 0 ≤ n ∧ n ≤ 400000
          case neg => have H1 := H.out; rw [if_neg hn] at H1; exact absurd H1 (by simp)
          have H1 := H.out
          rw [if_pos hn] at H1
          clear H
          obtain ⟨n1, n2⟩ := hn
          by_cases hall : ok = true ∧ two = true ∧ right = true ∧ ¬ path.toList = []
          · rw [if_pos hall] at H1
            obtain ⟨rfl, rfl, rfl, hp⟩ := hall
            have hp1 : (path.toList == []) = false := beq_eq_false_iff_ne.2 hp
            have hp2 : (path.toList != []) = true := bne_iff_ne.2 hp
            clear hp
            have H := Aside0.mk H1
            clear H1
            have hsum : wrap64 (sum + n) = sum + n := by unfold wrap64; omega
            by_cases hle : sum + n ≤ 400000
            · have hmin : min (sum + n) 400000 = sum + n := by omega
              rw [hmin] at H
              clear hmin
              go_wp2_with fail
              generalize sum + n = sm at H ⊢
              clear hsum hle
              obtain ⟨B1, d1, ev⟩ := Kd.R_slice HP1.out.V1
              subst ev
              obtain ⟨B2, d2, ev⟩ := Kd.R_slice HP1.out.V2
              subst ev
              have g3 := GG.out
              refine start_ (n := 14) (S := fun w' => w'.cell? ⟨q, 1, none⟩ = some (.slice B1 ps.length d1) ∧ w'.cell? ⟨q, 2, none⟩ = some (.slice B2 es.length d2)) (ds := [11, 13]) #[false, false, false, false, false, false, false, false, false, false, false, false, false, false] (by kernel_rfl) rfl rfl ⟨blk_cell HP1.out.Q 1, blk_cell HP1.out.Q 2⟩ (fun hHeld => ?_)
              have HP := Aside0.mk HP1.out.drew
              clear HP1
              generalize W3.drew = W4 at HP hHeld ⊢
              have GL := Aside0.mk g3
              have g3b : es.length ≤ 20000 := (by omega)
              clear g3
              refine pure_ (i := 0) (N := some 59) (v := ?_) (a' := ?_) #[true, false, false, false, false, false, false, false, false, false, false, false, false, false] rfl rfl (by kernel_rfl) (fun _ _ _ h => h) (Or.inl ⟨by rfl, ?_⟩) ?_ ?_
              rotate_left
              · intro w'
                go_simp
                with_reducible rfl
              rotate_left
              · simp only [Act.put, List.setIfInBounds_toArray, List.set_cons_zero, List.set_cons_succ, i64_w, i32_w]
                rfl
              refine pure_ (i := 2) (N := some 61) (v := ?_) (a' := ?_) #[true, false, true, false, false, false, false, false, false, false, false, false, false, false] rfl rfl (by kernel_rfl) (fun _ _ _ h => h) (Or.inl ⟨by rfl, ?_⟩) ?_ ?_
              rotate_left
              · intro w'
                go_simp
                with_reducible rfl
              rotate_left
              · simp only [Act.put, List.setIfInBounds_toArray, List.set_cons_zero, List.set_cons_succ, i64_w, i32_w]
                rfl
              refine pure_ (i := 5) (N := some 64) (v := ?_) (a' := ?_) #[true, false, true, false, false, true, false, false, false, false, false, false, false, false] rfl rfl (by kernel_rfl) (fun _ _ _ h => h) (Or.inl ⟨by rfl, ?_⟩) ?_ ?_
              rotate_left
              · intro w'
                go_simp
                with_reducible rfl
              rotate_left
              · simp only [Act.put, List.setIfInBounds_toArray, List.set_cons_zero, List.set_cons_succ, i64_w, i32_w]
                rfl
              refine pure_ (i := 7) (N := some 66) (v := ?_) (a' := ?_) #[true, false, true, false, false, true, false, true, false, false, false, false, false, false] rfl rfl (by kernel_rfl) (fun _ _ _ h => h) (Or.inl ⟨by rfl, ?_⟩) ?_ ?_
              rotate_left
              · intro w'
                go_simp
                with_reducible rfl
              rotate_left
              · simp only [Act.put, List.setIfInBounds_toArray, List.set_cons_zero, List.set_cons_succ, i64_w, i32_w]
                rfl
              refine take_ (i := 1) (N := some 60) (v := ?_) (a' := ?_) #[true, true, true, false, false, true, false, true, false, false, false, false, false, false] rfl rfl (by kernel_rfl) (fun _ _ _ h => h) (Or.inl ⟨by rfl, ?_⟩) hHeld ?_ ?_
              rotate_left
              · rintro w' ⟨s1, s2⟩
                go_simp
                with_reducible rfl
              rotate_left
              · simp only [Act.put, List.setIfInBounds_toArray, List.set_cons_zero, List.set_cons_succ, i64_w, i32_w]
                rfl
              refine take_ (i := 6) (N := some 65) (v := ?_) (a' := ?_) #[true, true, true, false, false, true, true, true, false, false, false, false, false, false] rfl rfl (by kernel_rfl) (fun _ _ _ h => h) (Or.inl ⟨by rfl, ?_⟩) hHeld ?_ ?_
              rotate_left
              · rintro w' ⟨s1, s2⟩
                go_simp
                with_reducible rfl
              rotate_left
              · simp only [Act.put, List.setIfInBounds_toArray, List.set_cons_zero, List.set_cons_succ, i64_w, i32_w]
                rfl
              refine two_ (i := 3) (j := 8) #[true, true, true, true, false, true, true, true, false, false, false, false, false, false] #[true, true, true, false, false, true, true, true, true, false, false, false, false, false] rfl rfl rfl rfl (by kernel_rfl) (by decide) (by decide) (fun K hK => ?_) (fun K hK => ?_)
              · refine value_ (w1 := ?_) (v := ?_) (by rfl) rfl ?_ ?_
                rotate_left 2
                · go_simp
                  constructor
                  · rfl
                  · rfl
                refine hK.out _ _ ⟨blk_cell (HP.out.alloc _).Q 1, blk_cell (HP.out.alloc _).Q 2⟩ (fun hHeld => ?_)
                clear hK K
                refine norm_ (a' := ?_) ?_ ?_
                rotate_left
                · show Act.put _ (some 62) _ = _
                  simp only [Act.put, List.setIfInBounds_toArray, List.set_cons_zero, List.set_cons_succ, i64_w, i32_w]
                  rfl
                have n1 := Aside0.mk (HP.out.alloc (.cells #[.string path] 9))
                have m1 := Aside0.mk (blk_new W4 (.cells #[.string path] 9))
                clear HP 
                have HP := n1
                have R1 := m1
                clear n1 m1 
                generalize W4.alloc (.cells #[.string path] 9) = W5 at HP hHeld R1 ⊢
                generalize W4.heap.size = b1 at R1 ⊢
                refine two_ (i := 4) (j := 8) #[true, true, true, true, true, true, true, true, false, false, false, false, false, false] #[true, true, true, true, false, true, true, true, true, false, false, false, false, false] rfl rfl rfl rfl (by kernel_rfl) (by decide) (by decide) (fun K hK => ?_) (fun K hK => ?_)
                · refine Kd.R_append_rows_step Kd.string (Rr := Kd.string.K _) (w0 := w) w.heap.size (by rfl) (.tmp 60) (.tmp 62) 32 9 (.string ⟨#[]⟩) 16 rfl Tryd.underlying32 info9 rfl (by decide) (by omega) (.slice B1 ps.length d1) ps [path] (some ⟨b1, 0, none⟩) 1 1 (fun _ => True) (fun _ => False) rfl rfl HP.out.V1 (rm_one R1.out 1) (fun _ _ h => h) (fun _ hk => hk.elim) (fun _ _ => trivial) HP.out.B (below_size HP.out.B) (by omega) ?_
                  intro vv W6 ho hb hg hat
                  have n1 := Aside0.mk (HP.out.app1 ho hb hg)
                  clear HP ho hb hg hat R1
                  have HP := n1
                  clear n1 
                  obtain ⟨C1, f1, ev⟩ := Kd.R_slice HP.out.V1
                  subst ev
                  clear hHeld
                  refine hK.out _ _ ⟨blk_cell HP.out.Q 1, blk_cell HP.out.Q 2⟩ (fun hHeld => ?_)
                  clear hK K
                  refine norm_ (a' := ?_) ?_ ?_
                  rotate_left
                  · show Act.put _ (some 63) _ = _
                    simp only [Act.put, List.setIfInBounds_toArray, List.set_cons_zero, List.set_cons_succ, i64_w, i32_w]
                    rfl
                  refine pure_ (i := 10) (N := some 69) (v := ?_) (a' := ?_) #[true, true, true, true, true, true, true, true, false, false, true, false, false, false] rfl rfl (by kernel_rfl) (fun _ _ _ h => h) (Or.inl ⟨by rfl, ?_⟩) ?_ ?_
                  rotate_left
                  · intro w'
                    go_simp
                    with_reducible rfl
                  rotate_left
                  · simp only [Act.put, List.setIfInBounds_toArray, List.set_cons_zero, List.set_cons_succ, i64_w, i32_w]
                    rfl
                  refine one_ (i := 8) (N := some 67) #[true, true, true, true, true, true, true, true, true, false, true, false, false, false] rfl rfl (by kernel_rfl) (by decide) (fun K hK => ?_)
                  refine value_ (w1 := ?_) (v := ?_) (by rfl) rfl ?_ ?_
                  rotate_left 2
                  · go_simp
                    constructor
                    · rfl
                    · rfl
                  refine hK.out _ _ ⟨blk_cell (HP.out.alloc _).Q 1, blk_cell (HP.out.alloc _).Q 2⟩ (fun hHeld => ?_)
                  clear hK K
                  refine norm_ (a' := ?_) ?_ ?_
                  rotate_left
                  · show Act.put _ (some 67) _ = _
                    simp only [Act.put, List.setIfInBounds_toArray, List.set_cons_zero, List.set_cons_succ, i64_w, i32_w]
                    rfl
                  have n1 := Aside0.mk (HP.out.alloc (.cells #[.int .i64 sm] 3))
                  have m1 := Aside0.mk (blk_new W6 (.cells #[.int .i64 sm] 3))
                  clear HP 
                  have HP := n1
                  have R2 := m1
                  clear n1 m1 
                  generalize W6.alloc (.cells #[.int .i64 sm] 3) = W7 at HP hHeld R2 ⊢
                  generalize W6.heap.size = b2 at R2 ⊢
                  refine one_ (i := 9) (N := some 68) #[true, true, true, true, true, true, true, true, true, true, true, false, false, false] rfl rfl (by kernel_rfl) (by decide) (fun K hK => ?_)
                  refine Kd.R_append_rows_step (Kd.int .i64) (Rr := (Kd.int .i64).K _) (w0 := w) w.heap.size (by rfl) (.tmp 65) (.tmp 67) 33 3 (.int .i64 0) 8 rfl Tryd.underlying33 info3 rfl (by decide) (by omega) (.slice B2 es.length d2) es [sm] (some ⟨b2, 0, none⟩) 1 1 (fun _ => True) (fun _ => False) rfl rfl HP.out.V2 (rm_one R2.out 1) (fun _ _ h => h) (fun _ hk => hk.elim) (fun _ _ => trivial) HP.out.B (below_size HP.out.B) (by omega) ?_
                  intro vv W8 ho hb hg hat
                  have n1 := Aside0.mk (HP.out.app2 ho hb hg)
                  clear HP ho hb hg hat R2
                  have HP := n1
                  clear n1 
                  obtain ⟨C2, f2, ev⟩ := Kd.R_slice HP.out.V2
                  subst ev
                  clear hHeld
                  refine hK.out _ _ ⟨blk_cell HP.out.Q 1, blk_cell HP.out.Q 2⟩ (fun hHeld => ?_)
                  clear hK K
                  refine norm_ (a' := ?_) ?_ ?_
                  rotate_left
                  · show Act.put _ (some 68) _ = _
                    simp only [Act.put, List.setIfInBounds_toArray, List.set_cons_zero, List.set_cons_succ, i64_w, i32_w]
                    rfl
                  refine last_ (i := 11) (N := none) #[true, true, true, true, true, true, true, true, true, true, true, true, false, false] rfl rfl (by kernel_rfl) (by decide) (fun K hK => ?_)
                  have hfz := blk_frozen HP.out.Q 1
                  have hcz := blk_cell HP.out.Q 1
                  refine skip_ (w1 := ?_) (by rfl) rfl ?_ ?_
                  rotate_left
                  · go_simp
                    rfl
                  refine hK.out _ _ ?_
                  clear hK K hfz hcz
                  have n1 := Aside0.mk (HP.out.set1 hq (.slice C1 (ps.length + 1) f1))
                  clear HP
                  have HP := n1
                  clear n1
                  generalize (W8.setCell { block := q, off := 1 } (.slice C1 (ps.length + 1) f1)) = Wz at HP ⊢
                  refine pure_ (i := 12) (N := some 70) (v := ?_) (a' := ?_) #[true, true, true, true, true, true, true, true, true, true, true, true, true, false] rfl rfl (by kernel_rfl) (fun _ _ _ h => h) (Or.inl ⟨by rfl, ?_⟩) ?_ ?_
                  rotate_left
                  · intro w'
                    go_simp
                    with_reducible rfl
                  rotate_left
                  · simp only [Act.put, List.setIfInBounds_toArray, List.set_cons_zero, List.set_cons_succ, i64_w, i32_w]
                    rfl
                  refine last_ (i := 13) (N := none) #[true, true, true, true, true, true, true, true, true, true, true, true, true, true] rfl rfl (by kernel_rfl) (by decide) (fun K hK => ?_)
                  have hfz := blk_frozen HP.out.Q 2
                  have hcz := blk_cell HP.out.Q 2
                  refine skip_ (w1 := ?_) (by rfl) rfl ?_ ?_
                  rotate_left
                  · go_simp
                    rfl
                  refine hK.out _ _ ?_
                  clear hK K hfz hcz
                  refine done_ (by kernel_rfl) ?_
                  have HP9 := Aside0.mk (rm_close (HP.out.set2 hq (.slice C2 (es.length + 1) f2)) (by simp) (by simp))
                  clear HP
                  try go_wp2
                  go_roundg k1
                  case measure => have := HK1.out; omega
                  case rel => exact ⟨rest, sm, _, _, ps ++ [path], es ++ [sm], rfl, rfl, H, ⟨by have := HK1.out; omega⟩, HP9⟩
                · refine value_ (w1 := ?_) (v := ?_) (by rfl) rfl ?_ ?_
                  rotate_left 2
                  · go_simp
                    constructor
                    · rfl
                    · rfl
                  refine hK.out _ _ ⟨blk_cell (HP.out.alloc _).Q 1, blk_cell (HP.out.alloc _).Q 2⟩ (fun hHeld => ?_)
                  clear hK K
                  refine norm_ (a' := ?_) ?_ ?_
                  rotate_left
                  · show Act.put _ (some 67) _ = _
                    simp only [Act.put, List.setIfInBounds_toArray, List.set_cons_zero, List.set_cons_succ, i64_w, i32_w]
                    rfl
                  have n1 := Aside0.mk (HP.out.alloc (.cells #[.int .i64 sm] 3))
                  have m1 := Aside0.mk (blk_new W5 (.cells #[.int .i64 sm] 3))
                  have kR1 := Aside0.mk (blk_alloc R1.out (.cells #[.int .i64 sm] 3))
                  clear HP R1
                  have HP := n1
                  have R2 := m1
                  have R1 := kR1
                  clear n1 m1 kR1
                  generalize W5.alloc (.cells #[.int .i64 sm] 3) = W6 at HP hHeld R2 R1 ⊢
                  generalize W5.heap.size = b2 at R2 ⊢
                  refine one_ (i := 4) (N := some 63) #[true, true, true, true, true, true, true, true, true, false, false, false, false, false] rfl rfl (by kernel_rfl) (by decide) (fun K hK => ?_)
                  refine Kd.R_append_rows_step Kd.string (Rr := Kd.string.K _) (w0 := w) w.heap.size (by rfl) (.tmp 60) (.tmp 62) 32 9 (.string ⟨#[]⟩) 16 rfl Tryd.underlying32 info9 rfl (by decide) (by omega) (.slice B1 ps.length d1) ps [path] (some ⟨b1, 0, none⟩) 1 1 (fun _ => True) (fun _ => False) rfl rfl HP.out.V1 (rm_one R1.out 1) (fun _ _ h => h) (fun _ hk => hk.elim) (fun _ _ => trivial) HP.out.B (below_size HP.out.B) (by omega) ?_
                  intro vv W7 ho hb hg hat
                  have n1 := Aside0.mk (HP.out.app1 ho hb hg)
                  have kR2 := Aside0.mk (Bld.blk_stays R2.out (Bld.stays_grown HP.out.V1 hg) (by decide))
                  clear HP ho hb hg hat R1 R2
                  have HP := n1
                  have R2 := kR2
                  clear n1 kR2
                  obtain ⟨C1, f1, ev⟩ := Kd.R_slice HP.out.V1
                  subst ev
                  clear hHeld
                  refine hK.out _ _ ⟨blk_cell HP.out.Q 1, blk_cell HP.out.Q 2⟩ (fun hHeld => ?_)
                  clear hK K
                  refine norm_ (a' := ?_) ?_ ?_
                  rotate_left
                  · show Act.put _ (some 63) _ = _
                    simp only [Act.put, List.setIfInBounds_toArray, List.set_cons_zero, List.set_cons_succ, i64_w, i32_w]
                    rfl
                  refine pure_ (i := 10) (N := some 69) (v := ?_) (a' := ?_) #[true, true, true, true, true, true, true, true, true, false, true, false, false, false] rfl rfl (by kernel_rfl) (fun _ _ _ h => h) (Or.inl ⟨by rfl, ?_⟩) ?_ ?_
                  rotate_left
                  · intro w'
                    go_simp
                    with_reducible rfl
                  rotate_left
                  · simp only [Act.put, List.setIfInBounds_toArray, List.set_cons_zero, List.set_cons_succ, i64_w, i32_w]
                    rfl
                  refine one_ (i := 9) (N := some 68) #[true, true, true, true, true, true, true, true, true, true, true, false, false, false] rfl rfl (by kernel_rfl) (by decide) (fun K hK => ?_)
                  refine Kd.R_append_rows_step (Kd.int .i64) (Rr := (Kd.int .i64).K _) (w0 := w) w.heap.size (by rfl) (.tmp 65) (.tmp 67) 33 3 (.int .i64 0) 8 rfl Tryd.underlying33 info3 rfl (by decide) (by omega) (.slice B2 es.length d2) es [sm] (some ⟨b2, 0, none⟩) 1 1 (fun _ => True) (fun _ => False) rfl rfl HP.out.V2 (rm_one R2.out 1) (fun _ _ h => h) (fun _ hk => hk.elim) (fun _ _ => trivial) HP.out.B (below_size HP.out.B) (by omega) ?_
                  intro vv W8 ho hb hg hat
                  have n1 := Aside0.mk (HP.out.app2 ho hb hg)
                  clear HP ho hb hg hat R2
                  have HP := n1
                  clear n1 
                  obtain ⟨C2, f2, ev⟩ := Kd.R_slice HP.out.V2
                  subst ev
                  clear hHeld
                  refine hK.out _ _ ⟨blk_cell HP.out.Q 1, blk_cell HP.out.Q 2⟩ (fun hHeld => ?_)
                  clear hK K
                  refine norm_ (a' := ?_) ?_ ?_
                  rotate_left
                  · show Act.put _ (some 68) _ = _
                    simp only [Act.put, List.setIfInBounds_toArray, List.set_cons_zero, List.set_cons_succ, i64_w, i32_w]
                    rfl
                  refine last_ (i := 11) (N := none) #[true, true, true, true, true, true, true, true, true, true, true, true, false, false] rfl rfl (by kernel_rfl) (by decide) (fun K hK => ?_)
                  have hfz := blk_frozen HP.out.Q 1
                  have hcz := blk_cell HP.out.Q 1
                  refine skip_ (w1 := ?_) (by rfl) rfl ?_ ?_
                  rotate_left
                  · go_simp
                    rfl
                  refine hK.out _ _ ?_
                  clear hK K hfz hcz
                  have n1 := Aside0.mk (HP.out.set1 hq (.slice C1 (ps.length + 1) f1))
                  clear HP
                  have HP := n1
                  clear n1
                  generalize (W8.setCell { block := q, off := 1 } (.slice C1 (ps.length + 1) f1)) = Wz at HP ⊢
                  refine pure_ (i := 12) (N := some 70) (v := ?_) (a' := ?_) #[true, true, true, true, true, true, true, true, true, true, true, true, true, false] rfl rfl (by kernel_rfl) (fun _ _ _ h => h) (Or.inl ⟨by rfl, ?_⟩) ?_ ?_
                  rotate_left
                  · intro w'
                    go_simp
                    with_reducible rfl
                  rotate_left
                  · simp only [Act.put, List.setIfInBounds_toArray, List.set_cons_zero, List.set_cons_succ, i64_w, i32_w]
                    rfl
                  refine last_ (i := 13) (N := none) #[true, true, true, true, true, true, true, true, true, true, true, true, true, true] rfl rfl (by kernel_rfl) (by decide) (fun K hK => ?_)
                  have hfz := blk_frozen HP.out.Q 2
                  have hcz := blk_cell HP.out.Q 2
                  refine skip_ (w1 := ?_) (by rfl) rfl ?_ ?_
                  rotate_left
                  · go_simp
                    rfl
                  refine hK.out _ _ ?_
                  clear hK K hfz hcz
                  refine done_ (by kernel_rfl) ?_
                  have HP9 := Aside0.mk (rm_close (HP.out.set2 hq (.slice C2 (es.length + 1) f2)) (by simp) (by simp))
                  clear HP
                  try go_wp2
                  go_roundg k1
                  case measure => have := HK1.out; omega
                  case rel => exact ⟨rest, sm, _, _, ps ++ [path], es ++ [sm], rfl, rfl, H, ⟨by have := HK1.out; omega⟩, HP9⟩
              · refine value_ (w1 := ?_) (v := ?_) (by rfl) rfl ?_ ?_
                rotate_left 2
                · go_simp
                  constructor
                  · rfl
                  · rfl
                refine hK.out _ _ ⟨blk_cell (HP.out.alloc _).Q 1, blk_cell (HP.out.alloc _).Q 2⟩ (fun hHeld => ?_)
                clear hK K
                refine norm_ (a' := ?_) ?_ ?_
                rotate_left
                · show Act.put _ (some 67) _ = _
                  simp only [Act.put, List.setIfInBounds_toArray, List.set_cons_zero, List.set_cons_succ, i64_w, i32_w]
                  rfl
                have n1 := Aside0.mk (HP.out.alloc (.cells #[.int .i64 sm] 3))
                have m1 := Aside0.mk (blk_new W4 (.cells #[.int .i64 sm] 3))
                clear HP 
                have HP := n1
                have R2 := m1
                clear n1 m1 
                generalize W4.alloc (.cells #[.int .i64 sm] 3) = W5 at HP hHeld R2 ⊢
                generalize W4.heap.size = b2 at R2 ⊢
                refine one_ (i := 3) (N := some 62) #[true, true, true, true, false, true, true, true, true, false, false, false, false, false] rfl rfl (by kernel_rfl) (by decide) (fun K hK => ?_)
                refine value_ (w1 := ?_) (v := ?_) (by rfl) rfl ?_ ?_
                rotate_left 2
                · go_simp
                  constructor
                  · rfl
                  · rfl
                refine hK.out _ _ ⟨blk_cell (HP.out.alloc _).Q 1, blk_cell (HP.out.alloc _).Q 2⟩ (fun hHeld => ?_)
                clear hK K
                refine norm_ (a' := ?_) ?_ ?_
                rotate_left
                · show Act.put _ (some 62) _ = _
                  simp only [Act.put, List.setIfInBounds_toArray, List.set_cons_zero, List.set_cons_succ, i64_w, i32_w]
                  rfl
                have n1 := Aside0.mk (HP.out.alloc (.cells #[.string path] 9))
                have m1 := Aside0.mk (blk_new W5 (.cells #[.string path] 9))
                have kR2 := Aside0.mk (blk_alloc R2.out (.cells #[.string path] 9))
                clear HP R2
                have HP := n1
                have R1 := m1
                have R2 := kR2
                clear n1 m1 kR2
                generalize W5.alloc (.cells #[.string path] 9) = W6 at HP hHeld R1 R2 ⊢
                generalize W5.heap.size = b1 at R1 ⊢
                refine one_ (i := 4) (N := some 63) #[true, true, true, true, true, true, true, true, true, false, false, false, false, false] rfl rfl (by kernel_rfl) (by decide) (fun K hK => ?_)
                refine Kd.R_append_rows_step Kd.string (Rr := Kd.string.K _) (w0 := w) w.heap.size (by rfl) (.tmp 60) (.tmp 62) 32 9 (.string ⟨#[]⟩) 16 rfl Tryd.underlying32 info9 rfl (by decide) (by omega) (.slice B1 ps.length d1) ps [path] (some ⟨b1, 0, none⟩) 1 1 (fun _ => True) (fun _ => False) rfl rfl HP.out.V1 (rm_one R1.out 1) (fun _ _ h => h) (fun _ hk => hk.elim) (fun _ _ => trivial) HP.out.B (below_size HP.out.B) (by omega) ?_
                intro vv W7 ho hb hg hat
                have n1 := Aside0.mk (HP.out.app1 ho hb hg)
                have kR2 := Aside0.mk (Bld.blk_stays R2.out (Bld.stays_grown HP.out.V1 hg) (by decide))
                clear HP ho hb hg hat R1 R2
                have HP := n1
                have R2 := kR2
                clear n1 kR2
                obtain ⟨C1, f1, ev⟩ := Kd.R_slice HP.out.V1
                subst ev
                clear hHeld
                refine hK.out _ _ ⟨blk_cell HP.out.Q 1, blk_cell HP.out.Q 2⟩ (fun hHeld => ?_)
                clear hK K
                refine norm_ (a' := ?_) ?_ ?_
                rotate_left
                · show Act.put _ (some 63) _ = _
                  simp only [Act.put, List.setIfInBounds_toArray, List.set_cons_zero, List.set_cons_succ, i64_w, i32_w]
                  rfl
                refine pure_ (i := 10) (N := some 69) (v := ?_) (a' := ?_) #[true, true, true, true, true, true, true, true, true, false, true, false, false, false] rfl rfl (by kernel_rfl) (fun _ _ _ h => h) (Or.inl ⟨by rfl, ?_⟩) ?_ ?_
                rotate_left
                · intro w'
                  go_simp
                  with_reducible rfl
                rotate_left
                · simp only [Act.put, List.setIfInBounds_toArray, List.set_cons_zero, List.set_cons_succ, i64_w, i32_w]
                  rfl
                refine one_ (i := 9) (N := some 68) #[true, true, true, true, true, true, true, true, true, true, true, false, false, false] rfl rfl (by kernel_rfl) (by decide) (fun K hK => ?_)
                refine Kd.R_append_rows_step (Kd.int .i64) (Rr := (Kd.int .i64).K _) (w0 := w) w.heap.size (by rfl) (.tmp 65) (.tmp 67) 33 3 (.int .i64 0) 8 rfl Tryd.underlying33 info3 rfl (by decide) (by omega) (.slice B2 es.length d2) es [sm] (some ⟨b2, 0, none⟩) 1 1 (fun _ => True) (fun _ => False) rfl rfl HP.out.V2 (rm_one R2.out 1) (fun _ _ h => h) (fun _ hk => hk.elim) (fun _ _ => trivial) HP.out.B (below_size HP.out.B) (by omega) ?_
                intro vv W8 ho hb hg hat
                have n1 := Aside0.mk (HP.out.app2 ho hb hg)
                clear HP ho hb hg hat R2
                have HP := n1
                clear n1 
                obtain ⟨C2, f2, ev⟩ := Kd.R_slice HP.out.V2
                subst ev
                clear hHeld
                refine hK.out _ _ ⟨blk_cell HP.out.Q 1, blk_cell HP.out.Q 2⟩ (fun hHeld => ?_)
                clear hK K
                refine norm_ (a' := ?_) ?_ ?_
                rotate_left
                · show Act.put _ (some 68) _ = _
                  simp only [Act.put, List.setIfInBounds_toArray, List.set_cons_zero, List.set_cons_succ, i64_w, i32_w]
                  rfl
                refine last_ (i := 11) (N := none) #[true, true, true, true, true, true, true, true, true, true, true, true, false, false] rfl rfl (by kernel_rfl) (by decide) (fun K hK => ?_)
                have hfz := blk_frozen HP.out.Q 1
                have hcz := blk_cell HP.out.Q 1
                refine skip_ (w1 := ?_) (by rfl) rfl ?_ ?_
                rotate_left
                · go_simp
                  rfl
                refine hK.out _ _ ?_
                clear hK K hfz hcz
                have n1 := Aside0.mk (HP.out.set1 hq (.slice C1 (ps.length + 1) f1))
                clear HP
                have HP := n1
                clear n1
                generalize (W8.setCell { block := q, off := 1 } (.slice C1 (ps.length + 1) f1)) = Wz at HP ⊢
                refine pure_ (i := 12) (N := some 70) (v := ?_) (a' := ?_) #[true, true, true, true, true, true, true, true, true, true, true, true, true, false] rfl rfl (by kernel_rfl) (fun _ _ _ h => h) (Or.inl ⟨by rfl, ?_⟩) ?_ ?_
                rotate_left
                · intro w'
                  go_simp
                  with_reducible rfl
                rotate_left
                · simp only [Act.put, List.setIfInBounds_toArray, List.set_cons_zero, List.set_cons_succ, i64_w, i32_w]
                  rfl
                refine last_ (i := 13) (N := none) #[true, true, true, true, true, true, true, true, true, true, true, true, true, true] rfl rfl (by kernel_rfl) (by decide) (fun K hK => ?_)
                have hfz := blk_frozen HP.out.Q 2
                have hcz := blk_cell HP.out.Q 2
                refine skip_ (w1 := ?_) (by rfl) rfl ?_ ?_
                rotate_left
                · go_simp
                  rfl
                refine hK.out _ _ ?_
                clear hK K hfz hcz
                refine done_ (by kernel_rfl) ?_
                have HP9 := Aside0.mk (rm_close (HP.out.set2 hq (.slice C2 (es.length + 1) f2)) (by simp) (by simp))
                clear HP
                try go_wp2
                go_roundg k1
                case measure => have := HK1.out; omega
                case rel => exact ⟨rest, sm, _, _, ps ++ [path], es ++ [sm], rfl, rfl, H, ⟨by have := HK1.out; omega⟩, HP9⟩
            · have hmin : min (sum + n) 400000 = 400000 := by omega
              rw [hmin] at H
              clear hmin
              go_wp2_with fail
              clear hsum hle
              obtain ⟨B1, d1, ev⟩ := Kd.R_slice HP1.out.V1
              subst ev
              obtain ⟨B2, d2, ev⟩ := Kd.R_slice HP1.out.V2
              subst ev
              have g3 := GG.out
              refine start_ (n := 14) (S := fun w' => w'.cell? ⟨q, 1, none⟩ = some (.slice B1 ps.length d1) ∧ w'.cell? ⟨q, 2, none⟩ = some (.slice B2 es.length d2)) (ds := [11, 13]) #[false, false, false, false, false, false, false, false, false, false, false, false, false, false] (by kernel_rfl) rfl rfl ⟨blk_cell HP1.out.Q 1, blk_cell HP1.out.Q 2⟩ (fun hHeld => ?_)
              have HP := Aside0.mk HP1.out.drew
              clear HP1
              generalize W3.drew = W4 at HP hHeld ⊢
              have GL := Aside0.mk g3
              have g3b : es.length ≤ 20000 := (by omega)
              clear g3
              refine pure_ (i := 0) (N := some 59) (v := ?_) (a' := ?_) #[true, false, false, false, false, false, false, false, false, false, false, false, false, false] rfl rfl (by kernel_rfl) (fun _ _ _ h => h) (Or.inl ⟨by rfl, ?_⟩) ?_ ?_
              rotate_left
              · intro w'
                go_simp
                with_reducible rfl
              rotate_left
              · simp only [Act.put, List.setIfInBounds_toArray, List.set_cons_zero, List.set_cons_succ, i64_w, i32_w]
                rfl
              refine pure_ (i := 2) (N := some 61) (v := ?_) (a' := ?_) #[true, false, true, false, false, false, false, false, false, false, false, false, false, false] rfl rfl (by kernel_rfl) (fun _ _ _ h => h) (Or.inl ⟨by rfl, ?_⟩) ?_ ?_
              rotate_left
              · intro w'
                go_simp
                with_reducible rfl
              rotate_left
              · simp only [Act.put, List.setIfInBounds_toArray, List.set_cons_zero, List.set_cons_succ, i64_w, i32_w]
                rfl
              refine pure_ (i := 5) (N := some 64) (v := ?_) (a' := ?_) #[true, false, true, false, false, true, false, false, false, false, false, false, false, false] rfl rfl (by kernel_rfl) (fun _ _ _ h => h) (Or.inl ⟨by rfl, ?_⟩) ?_ ?_
              rotate_left
              · intro w'
                go_simp
                with_reducible rfl
              rotate_left
              · simp only [Act.put, List.setIfInBounds_toArray, List.set_cons_zero, List.set_cons_succ, i64_w, i32_w]
                rfl
              refine pure_ (i := 7) (N := some 66) (v := ?_) (a' := ?_) #[true, false, true, false, false, true, false, true, false, false, false, false, false, false] rfl rfl (by kernel_rfl) (fun _ _ _ h => h) (Or.inl ⟨by rfl, ?_⟩) ?_ ?_
              rotate_left
              · intro w'
                go_simp
                with_reducible rfl
              rotate_left
              · simp only [Act.put, List.setIfInBounds_toArray, List.set_cons_zero, List.set_cons_succ, i64_w, i32_w]
                rfl
              refine take_ (i := 1) (N := some 60) (v := ?_) (a' := ?_) #[true, true, true, false, false, true, false, true, false, false, false, false, false, false] rfl rfl (by kernel_rfl) (fun _ _ _ h => h) (Or.inl ⟨by rfl, ?_⟩) hHeld ?_ ?_
              rotate_left
              · rintro w' ⟨s1, s2⟩
                go_simp
                with_reducible rfl
              rotate_left
              · simp only [Act.put, List.setIfInBounds_toArray, List.set_cons_zero, List.set_cons_succ, i64_w, i32_w]
                rfl
              refine take_ (i := 6) (N := some 65) (v := ?_) (a' := ?_) #[true, true, true, false, false, true, true, true, false, false, false, false, false, false] rfl rfl (by kernel_rfl) (fun _ _ _ h => h) (Or.inl ⟨by rfl, ?_⟩) hHeld ?_ ?_
              rotate_left
              · rintro w' ⟨s1, s2⟩
                go_simp
                with_reducible rfl
              rotate_left
              · simp only [Act.put, List.setIfInBounds_toArray, List.set_cons_zero, List.set_cons_succ, i64_w, i32_w]
                rfl
              refine two_ (i := 3) (j := 8) #[true, true, true, true, false, true, true, true, false, false, false, false, false, false] #[true, true, true, false, false, true, true, true, true, false, false, false, false, false] rfl rfl rfl rfl (by kernel_rfl) (by decide) (by decide) (fun K hK => ?_) (fun K hK => ?_)
              · refine value_ (w1 := ?_) (v := ?_) (by rfl) rfl ?_ ?_
                rotate_left 2
                · go_simp
                  constructor
                  · rfl
                  · rfl
                refine hK.out _ _ ⟨blk_cell (HP.out.alloc _).Q 1, blk_cell (HP.out.alloc _).Q 2⟩ (fun hHeld => ?_)
                clear hK K
                refine norm_ (a' := ?_) ?_ ?_
                rotate_left
                · show Act.put _ (some 62) _ = _
                  simp only [Act.put, List.setIfInBounds_toArray, List.set_cons_zero, List.set_cons_succ, i64_w, i32_w]
                  rfl
                have n1 := Aside0.mk (HP.out.alloc (.cells #[.string path] 9))
                have m1 := Aside0.mk (blk_new W4 (.cells #[.string path] 9))
                clear HP 
                have HP := n1
                have R1 := m1
                clear n1 m1 
                generalize W4.alloc (.cells #[.string path] 9) = W5 at HP hHeld R1 ⊢
                generalize W4.heap.size = b1 at R1 ⊢
                refine two_ (i := 4) (j := 8) #[true, true, true, true, true, true, true, true, false, false, false, false, false, false] #[true, true, true, true, false, true, true, true, true, false, false, false, false, false] rfl rfl rfl rfl (by kernel_rfl) (by decide) (by decide) (fun K hK => ?_) (fun K hK => ?_)
                · refine Kd.R_append_rows_step Kd.string (Rr := Kd.string.K _) (w0 := w) w.heap.size (by rfl) (.tmp 60) (.tmp 62) 32 9 (.string ⟨#[]⟩) 16 rfl Tryd.underlying32 info9 rfl (by decide) (by omega) (.slice B1 ps.length d1) ps [path] (some ⟨b1, 0, none⟩) 1 1 (fun _ => True) (fun _ => False) rfl rfl HP.out.V1 (rm_one R1.out 1) (fun _ _ h => h) (fun _ hk => hk.elim) (fun _ _ => trivial) HP.out.B (below_size HP.out.B) (by omega) ?_
                  intro vv W6 ho hb hg hat
                  have n1 := Aside0.mk (HP.out.app1 ho hb hg)
                  clear HP ho hb hg hat R1
                  have HP := n1
                  clear n1 
                  obtain ⟨C1, f1, ev⟩ := Kd.R_slice HP.out.V1
                  subst ev
                  clear hHeld
                  refine hK.out _ _ ⟨blk_cell HP.out.Q 1, blk_cell HP.out.Q 2⟩ (fun hHeld => ?_)
                  clear hK K
                  refine norm_ (a' := ?_) ?_ ?_
                  rotate_left
                  · show Act.put _ (some 63) _ = _
                    simp only [Act.put, List.setIfInBounds_toArray, List.set_cons_zero, List.set_cons_succ, i64_w, i32_w]
                    rfl
                  refine pure_ (i := 10) (N := some 69) (v := ?_) (a' := ?_) #[true, true, true, true, true, true, true, true, false, false, true, false, false, false] rfl rfl (by kernel_rfl) (fun _ _ _ h => h) (Or.inl ⟨by rfl, ?_⟩) ?_ ?_
                  rotate_left
                  · intro w'
                    go_simp
                    with_reducible rfl
                  rotate_left
                  · simp only [Act.put, List.setIfInBounds_toArray, List.set_cons_zero, List.set_cons_succ, i64_w, i32_w]
                    rfl
                  refine one_ (i := 8) (N := some 67) #[true, true, true, true, true, true, true, true, true, false, true, false, false, false] rfl rfl (by kernel_rfl) (by decide) (fun K hK => ?_)
                  refine value_ (w1 := ?_) (v := ?_) (by rfl) rfl ?_ ?_
                  rotate_left 2
                  · go_simp
                    constructor
                    · rfl
                    · rfl
                  refine hK.out _ _ ⟨blk_cell (HP.out.alloc _).Q 1, blk_cell (HP.out.alloc _).Q 2⟩ (fun hHeld => ?_)
                  clear hK K
                  refine norm_ (a' := ?_) ?_ ?_
                  rotate_left
                  · show Act.put _ (some 67) _ = _
                    simp only [Act.put, List.setIfInBounds_toArray, List.set_cons_zero, List.set_cons_succ, i64_w, i32_w]
                    rfl
                  have n1 := Aside0.mk (HP.out.alloc (.cells #[.int .i64 400000] 3))
                  have m1 := Aside0.mk (blk_new W6 (.cells #[.int .i64 400000] 3))
                  clear HP 
                  have HP := n1
                  have R2 := m1
                  clear n1 m1 
                  generalize W6.alloc (.cells #[.int .i64 400000] 3) = W7 at HP hHeld R2 ⊢
                  generalize W6.heap.size = b2 at R2 ⊢
                  refine one_ (i := 9) (N := some 68) #[true, true, true, true, true, true, true, true, true, true, true, false, false, false] rfl rfl (by kernel_rfl) (by decide) (fun K hK => ?_)
                  refine Kd.R_append_rows_step (Kd.int .i64) (Rr := (Kd.int .i64).K _) (w0 := w) w.heap.size (by rfl) (.tmp 65) (.tmp 67) 33 3 (.int .i64 0) 8 rfl Tryd.underlying33 info3 rfl (by decide) (by omega) (.slice B2 es.length d2) es [400000] (some ⟨b2, 0, none⟩) 1 1 (fun _ => True) (fun _ => False) rfl rfl HP.out.V2 (rm_one R2.out 1) (fun _ _ h => h) (fun _ hk => hk.elim) (fun _ _ => trivial) HP.out.B (below_size HP.out.B) (by omega) ?_
                  intro vv W8 ho hb hg hat
                  have n1 := Aside0.mk (HP.out.app2 ho hb hg)
                  clear HP ho hb hg hat R2
                  have HP := n1
                  clear n1 
                  obtain ⟨C2, f2, ev⟩ := Kd.R_slice HP.out.V2
                  subst ev
                  clear hHeld
                  refine hK.out _ _ ⟨blk_cell HP.out.Q 1, blk_cell HP.out.Q 2⟩ (fun hHeld => ?_)
                  clear hK K
                  refine norm_ (a' := ?_) ?_ ?_
                  rotate_left
                  · show Act.put _ (some 68) _ = _
                    simp only [Act.put, List.setIfInBounds_toArray, List.set_cons_zero, List.set_cons_succ, i64_w, i32_w]
                    rfl
                  refine last_ (i := 11) (N := none) #[true, true, true, true, true, true, true, true, true, true, true, true, false, false] rfl rfl (by kernel_rfl) (by decide) (fun K hK => ?_)
                  have hfz := blk_frozen HP.out.Q 1
                  have hcz := blk_cell HP.out.Q 1
                  refine skip_ (w1 := ?_) (by rfl) rfl ?_ ?_
                  rotate_left
                  · go_simp
                    rfl
                  refine hK.out _ _ ?_
                  clear hK K hfz hcz
                  have n1 := Aside0.mk (HP.out.set1 hq (.slice C1 (ps.length + 1) f1))
                  clear HP
                  have HP := n1
                  clear n1
                  generalize (W8.setCell { block := q, off := 1 } (.slice C1 (ps.length + 1) f1)) = Wz at HP ⊢
                  refine pure_ (i := 12) (N := some 70) (v := ?_) (a' := ?_) #[true, true, true, true, true, true, true, true, true, true, true, true, true, false] rfl rfl (by kernel_rfl) (fun _ _ _ h => h) (Or.inl ⟨by rfl, ?_⟩) ?_ ?_
                  rotate_left
                  · intro w'
                    go_simp
                    with_reducible rfl
                  rotate_left
                  · simp only [Act.put, List.setIfInBounds_toArray, List.set_cons_zero, List.set_cons_succ, i64_w, i32_w]
                    rfl
                  refine last_ (i := 13) (N := none) #[true, true, true, true, true, true, true, true, true, true, true, true, true, true] rfl rfl (by kernel_rfl) (by decide) (fun K hK => ?_)
                  have hfz := blk_frozen HP.out.Q 2
                  have hcz := blk_cell HP.out.Q 2
                  refine skip_ (w1 := ?_) (by rfl) rfl ?_ ?_
                  rotate_left
                  · go_simp
                    rfl
                  refine hK.out _ _ ?_
                  clear hK K hfz hcz
                  refine done_ (by kernel_rfl) ?_
                  have HP9 := Aside0.mk (rm_close (HP.out.set2 hq (.slice C2 (es.length + 1) f2)) (by simp) (by simp))
                  clear HP
                  try go_wp2
                  go_roundg k1
                  case measure => have := HK1.out; omega
                  case rel => exact ⟨rest, 400000, _, _, ps ++ [path], es ++ [400000], rfl, rfl, H, ⟨by have := HK1.out; omega⟩, HP9⟩
                · refine value_ (w1 := ?_) (v := ?_) (by rfl) rfl ?_ ?_
                  rotate_left 2
                  · go_simp
                    constructor
                    · rfl
                    · rfl
                  refine hK.out _ _ ⟨blk_cell (HP.out.alloc _).Q 1, blk_cell (HP.out.alloc _).Q 2⟩ (fun hHeld => ?_)
                  clear hK K
                  refine norm_ (a' := ?_) ?_ ?_
                  rotate_left
                  · show Act.put _ (some 67) _ = _
                    simp only [Act.put, List.setIfInBounds_toArray, List.set_cons_zero, List.set_cons_succ, i64_w, i32_w]
                    rfl
                  have n1 := Aside0.mk (HP.out.alloc (.cells #[.int .i64 400000] 3))
                  have m1 := Aside0.mk (blk_new W5 (.cells #[.int .i64 400000] 3))
                  have kR1 := Aside0.mk (blk_alloc R1.out (.cells #[.int .i64 400000] 3))
                  clear HP R1
                  have HP := n1
                  have R2 := m1
                  have R1 := kR1
                  clear n1 m1 kR1
                  generalize W5.alloc (.cells #[.int .i64 400000] 3) = W6 at HP hHeld R2 R1 ⊢
                  generalize W5.heap.size = b2 at R2 ⊢
                  refine one_ (i := 4) (N := some 63) #[true, true, true, true, true, true, true, true, true, false, false, false, false, false] rfl rfl (by kernel_rfl) (by decide) (fun K hK => ?_)
                  refine Kd.R_append_rows_step Kd.string (Rr := Kd.string.K _) (w0 := w) w.heap.size (by rfl) (.tmp 60) (.tmp 62) 32 9 (.string ⟨#[]⟩) 16 rfl Tryd.underlying32 info9 rfl (by decide) (by omega) (.slice B1 ps.length d1) ps [path] (some ⟨b1, 0, none⟩) 1 1 (fun _ => True) (fun _ => False) rfl rfl HP.out.V1 (rm_one R1.out 1) (fun _ _ h => h) (fun _ hk => hk.elim) (fun _ _ => trivial) HP.out.B (below_size HP.out.B) (by omega) ?_
                  intro vv W7 ho hb hg hat
                  have n1 := Aside0.mk (HP.out.app1 ho hb hg)
                  have kR2 := Aside0.mk (Bld.blk_stays R2.out (Bld.stays_grown HP.out.V1 hg) (by decide))
                  clear HP ho hb hg hat R1 R2
                  have HP := n1
                  have R2 := kR2
                  clear n1 kR2
                  obtain ⟨C1, f1, ev⟩ := Kd.R_slice HP.out.V1
                  subst ev
                  clear hHeld
                  refine hK.out _ _ ⟨blk_cell HP.out.Q 1, blk_cell HP.out.Q 2⟩ (fun hHeld => ?_)
                  clear hK K
                  refine norm_ (a' := ?_) ?_ ?_
                  rotate_left
                  · show Act.put _ (some 63) _ = _
                    simp only [Act.put, List.setIfInBounds_toArray, List.set_cons_zero, List.set_cons_succ, i64_w, i32_w]
                    rfl
                  refine pure_ (i := 10) (N := some 69) (v := ?_) (a' := ?_) #[true, true, true, true, true, true, true, true, true, false, true, false, false, false] rfl rfl (by kernel_rfl) (fun _ _ _ h => h) (Or.inl ⟨by rfl, ?_⟩) ?_ ?_
                  rotate_left
                  · intro w'
                    go_simp
                    with_reducible rfl
                  rotate_left
                  · simp only [Act.put, List.setIfInBounds_toArray, List.set_cons_zero, List.set_cons_succ, i64_w, i32_w]
                    rfl
                  refine one_ (i := 9) (N := some 68) #[true, true, true, true, true, true, true, true, true, true, true, false, false, false] rfl rfl (by kernel_rfl) (by decide) (fun K hK => ?_)
                  refine Kd.R_append_rows_step (Kd.int .i64) (Rr := (Kd.int .i64).K _) (w0 := w) w.heap.size (by rfl) (.tmp 65) (.tmp 67) 33 3 (.int .i64 0) 8 rfl Tryd.underlying33 info3 rfl (by decide) (by omega) (.slice B2 es.length d2) es [400000] (some ⟨b2, 0, none⟩) 1 1 (fun _ => True) (fun _ => False) rfl rfl HP.out.V2 (rm_one R2.out 1) (fun _ _ h => h) (fun _ hk => hk.elim) (fun _ _ => trivial) HP.out.B (below_size HP.out.B) (by omega) ?_
                  intro vv W8 ho hb hg hat
                  have n1 := Aside0.mk (HP.out.app2 ho hb hg)
                  clear HP ho hb hg hat R2
                  have HP := n1
                  clear n1 
                  obtain ⟨C2, f2, ev⟩ := Kd.R_slice HP.out.V2
                  subst ev
                  clear hHeld
                  refine hK.out _ _ ⟨blk_cell HP.out.Q 1, blk_cell HP.out.Q 2⟩ (fun hHeld => ?_)
                  clear hK K
                  refine norm_ (a' := ?_) ?_ ?_
                  rotate_left
                  · show Act.put _ (some 68) _ = _
                    simp only [Act.put, List.setIfInBounds_toArray, List.set_cons_zero, List.set_cons_succ, i64_w, i32_w]
                    rfl
                  refine last_ (i := 11) (N := none) #[true, true, true, true, true, true, true, true, true, true, true, true, false, false] rfl rfl (by kernel_rfl) (by decide) (fun K hK => ?_)
                  have hfz := blk_frozen HP.out.Q 1
                  have hcz := blk_cell HP.out.Q 1
                  refine skip_ (w1 := ?_) (by rfl) rfl ?_ ?_
                  rotate_left
                  · go_simp
                    rfl
                  refine hK.out _ _ ?_
                  clear hK K hfz hcz
                  have n1 := Aside0.mk (HP.out.set1 hq (.slice C1 (ps.length + 1) f1))
                  clear HP
                  have HP := n1
                  clear n1
                  generalize (W8.setCell { block := q, off := 1 } (.slice C1 (ps.length + 1) f1)) = Wz at HP ⊢
                  refine pure_ (i := 12) (N := some 70) (v := ?_) (a' := ?_) #[true, true, true, true, true, true, true, true, true, true, true, true, true, false] rfl rfl (by kernel_rfl) (fun _ _ _ h => h) (Or.inl ⟨by rfl, ?_⟩) ?_ ?_
                  rotate_left
                  · intro w'
                    go_simp
                    with_reducible rfl
                  rotate_left
                  · simp only [Act.put, List.setIfInBounds_toArray, List.set_cons_zero, List.set_cons_succ, i64_w, i32_w]
                    rfl
                  refine last_ (i := 13) (N := none) #[true, true, true, true, true, true, true, true, true, true, true, true, true, true] rfl rfl (by kernel_rfl) (by decide) (fun K hK => ?_)
                  have hfz := blk_frozen HP.out.Q 2
                  have hcz := blk_cell HP.out.Q 2
                  refine skip_ (w1 := ?_) (by rfl) rfl ?_ ?_
                  rotate_left
                  · go_simp
                    rfl
                  refine hK.out _ _ ?_
                  clear hK K hfz hcz
                  refine done_ (by kernel_rfl) ?_
                  have HP9 := Aside0.mk (rm_close (HP.out.set2 hq (.slice C2 (es.length + 1) f2)) (by simp) (by simp))
                  clear HP
                  try go_wp2
                  go_roundg k1
                  case measure => have := HK1.out; omega
                  case rel => exact ⟨rest, 400000, _, _, ps ++ [path], es ++ [400000], rfl, rfl, H, ⟨by have := HK1.out; omega⟩, HP9⟩
              · refine value_ (w1 := ?_) (v := ?_) (by rfl) rfl ?_ ?_
                rotate_left 2
                · go_simp
                  constructor
                  · rfl
                  · rfl
                refine hK.out _ _ ⟨blk_cell (HP.out.alloc _).Q 1, blk_cell (HP.out.alloc _).Q 2⟩ (fun hHeld => ?_)
                clear hK K
                refine norm_ (a' := ?_) ?_ ?_
                rotate_left
                · show Act.put _ (some 67) _ = _
                  simp only [Act.put, List.setIfInBounds_toArray, List.set_cons_zero, List.set_cons_succ, i64_w, i32_w]
                  rfl
                have n1 := Aside0.mk (HP.out.alloc (.cells #[.int .i64 400000] 3))
                have m1 := Aside0.mk (blk_new W4 (.cells #[.int .i64 400000] 3))
                clear HP 
                have HP := n1
                have R2 := m1
                clear n1 m1 
                generalize W4.alloc (.cells #[.int .i64 400000] 3) = W5 at HP hHeld R2 ⊢
                generalize W4.heap.size = b2 at R2 ⊢
                refine one_ (i := 3) (N := some 62) #[true, true, true, true, false, true, true, true, true, false, false, false, false, false] rfl rfl (by kernel_rfl) (by decide) (fun K hK => ?_)
                refine value_ (w1 := ?_) (v := ?_) (by rfl) rfl ?_ ?_
                rotate_left 2
                · go_simp
                  constructor
                  · rfl
                  · rfl
                refine hK.out _ _ ⟨blk_cell (HP.out.alloc _).Q 1, blk_cell (HP.out.alloc _).Q 2⟩ (fun hHeld => ?_)
                clear hK K
                refine norm_ (a' := ?_) ?_ ?_
                rotate_left
                · show Act.put _ (some 62) _ = _
                  simp only [Act.put, List.setIfInBounds_toArray, List.set_cons_zero, List.set_cons_succ, i64_w, i32_w]
                  rfl
                have n1 := Aside0.mk (HP.out.alloc (.cells #[.string path] 9))
                have m1 := Aside0.mk (blk_new W5 (.cells #[.string path] 9))
                have kR2 := Aside0.mk (blk_alloc R2.out (.cells #[.string path] 9))
                clear HP R2
                have HP := n1
                have R1 := m1
                have R2 := kR2
                clear n1 m1 kR2
                generalize W5.alloc (.cells #[.string path] 9) = W6 at HP hHeld R1 R2 ⊢
                generalize W5.heap.size = b1 at R1 ⊢
                refine one_ (i := 4) (N := some 63) #[true, true, true, true, true, true, true, true, true, false, false, false, false, false] rfl rfl (by kernel_rfl) (by decide) (fun K hK => ?_)
                refine Kd.R_append_rows_step Kd.string (Rr := Kd.string.K _) (w0 := w) w.heap.size (by rfl) (.tmp 60) (.tmp 62) 32 9 (.string ⟨#[]⟩) 16 rfl Tryd.underlying32 info9 rfl (by decide) (by omega) (.slice B1 ps.length d1) ps [path] (some ⟨b1, 0, none⟩) 1 1 (fun _ => True) (fun _ => False) rfl rfl HP.out.V1 (rm_one R1.out 1) (fun _ _ h => h) (fun _ hk => hk.elim) (fun _ _ => trivial) HP.out.B (below_size HP.out.B) (by omega) ?_
                intro vv W7 ho hb hg hat
                have n1 := Aside0.mk (HP.out.app1 ho hb hg)
                have kR2 := Aside0.mk (Bld.blk_stays R2.out (Bld.stays_grown HP.out.V1 hg) (by decide))
                clear HP ho hb hg hat R1 R2
                have HP := n1
                have R2 := kR2
                clear n1 kR2
                obtain ⟨C1, f1, ev⟩ := Kd.R_slice HP.out.V1
                subst ev
                clear hHeld
                refine hK.out _ _ ⟨blk_cell HP.out.Q 1, blk_cell HP.out.Q 2⟩ (fun hHeld => ?_)
                clear hK K
                refine norm_ (a' := ?_) ?_ ?_
                rotate_left
                · show Act.put _ (some 63) _ = _
                  simp only [Act.put, List.setIfInBounds_toArray, List.set_cons_zero, List.set_cons_succ, i64_w, i32_w]
                  rfl
                refine pure_ (i := 10) (N := some 69) (v := ?_) (a' := ?_) #[true, true, true, true, true, true, true, true, true, false, true, false, false, false] rfl rfl (by kernel_rfl) (fun _ _ _ h => h) (Or.inl ⟨by rfl, ?_⟩) ?_ ?_
                rotate_left
                · intro w'
                  go_simp
                  with_reducible rfl
                rotate_left
                · simp only [Act.put, List.setIfInBounds_toArray, List.set_cons_zero, List.set_cons_succ, i64_w, i32_w]
                  rfl
                refine one_ (i := 9) (N := some 68) #[true, true, true, true, true, true, true, true, true, true, true, false, false, false] rfl rfl (by kernel_rfl) (by decide) (fun K hK => ?_)
                refine Kd.R_append_rows_step (Kd.int .i64) (Rr := (Kd.int .i64).K _) (w0 := w) w.heap.size (by rfl) (.tmp 65) (.tmp 67) 33 3 (.int .i64 0) 8 rfl Tryd.underlying33 info3 rfl (by decide) (by omega) (.slice B2 es.length d2) es [400000] (some ⟨b2, 0, none⟩) 1 1 (fun _ => True) (fun _ => False) rfl rfl HP.out.V2 (rm_one R2.out 1) (fun _ _ h => h) (fun _ hk => hk.elim) (fun _ _ => trivial) HP.out.B (below_size HP.out.B) (by omega) ?_
                intro vv W8 ho hb hg hat
                have n1 := Aside0.mk (HP.out.app2 ho hb hg)
                clear HP ho hb hg hat R2
                have HP := n1
                clear n1 
                obtain ⟨C2, f2, ev⟩ := Kd.R_slice HP.out.V2
                subst ev
                clear hHeld
                refine hK.out _ _ ⟨blk_cell HP.out.Q 1, blk_cell HP.out.Q 2⟩ (fun hHeld => ?_)
                clear hK K
                refine norm_ (a' := ?_) ?_ ?_
                rotate_left
                · show Act.put _ (some 68) _ = _
                  simp only [Act.put, List.setIfInBounds_toArray, List.set_cons_zero, List.set_cons_succ, i64_w, i32_w]
                  rfl
                refine last_ (i := 11) (N := none) #[true, true, true, true, true, true, true, true, true, true, true, true, false, false] rfl rfl (by kernel_rfl) (by decide) (fun K hK => ?_)
                have hfz := blk_frozen HP.out.Q 1
                have hcz := blk_cell HP.out.Q 1
                refine skip_ (w1 := ?_) (by rfl) rfl ?_ ?_
                rotate_left
                · go_simp
                  rfl
                refine hK.out _ _ ?_
                clear hK K hfz hcz
                have n1 := Aside0.mk (HP.out.set1 hq (.slice C1 (ps.length + 1) f1))
                clear HP
                have HP := n1
                clear n1
                generalize (W8.setCell { block := q, off := 1 } (.slice C1 (ps.length + 1) f1)) = Wz at HP ⊢
                refine pure_ (i := 12) (N := some 70) (v := ?_) (a' := ?_) #[true, true, true, true, true, true, true, true, true, true, true, true, true, false] rfl rfl (by kernel_rfl) (fun _ _ _ h => h) (Or.inl ⟨by rfl, ?_⟩) ?_ ?_
                rotate_left
                · intro w'
                  go_simp
                  with_reducible rfl
                rotate_left
                · simp only [Act.put, List.setIfInBounds_toArray, List.set_cons_zero, List.set_cons_succ, i64_w, i32_w]
                  rfl
                refine last_ (i := 13) (N := none) #[true, true, true, true, true, true, true, true, true, true, true, true, true, true] rfl rfl (by kernel_rfl) (by decide) (fun K hK => ?_)
                have hfz := blk_frozen HP.out.Q 2
                have hcz := blk_cell HP.out.Q 2
                refine skip_ (w1 := ?_) (by rfl) rfl ?_ ?_
                rotate_left
                · go_simp
                  rfl
                refine hK.out _ _ ?_
                clear hK K hfz hcz
                refine done_ (by kernel_rfl) ?_
                have HP9 := Aside0.mk (rm_close (HP.out.set2 hq (.slice C2 (es.length + 1) f2)) (by simp) (by simp))
                clear HP
                try go_wp2
                go_roundg k1
                case measure => have := HK1.out; omega
                case rel => exact ⟨rest, 400000, _, _, ps ++ [path], es ++ [400000], rfl, rfl, H, ⟨by have := HK1.out; omega⟩, HP9⟩
          · rw [if_neg hall] at H1
            simp only [Option.some.injEq, Prod.mk.injEq] at H1
            obtain ⟨rfl, rfl, rfl, rfl⟩ := H1
            cases ok
            case false =>
              have q0 : W3.cell? ⟨w.heap.size, 0, none⟩ = some (.string ⟨#[]⟩) := blk_cell HP1.out.A 0
              have q1 : W3.cell? ⟨w.heap.size, 1, none⟩ = some (.slice none 0 0) := blk_cell HP1.out.A 1
              have q2 : W3.cell? ⟨w.heap.size, 2, none⟩ = some (.slice none 0 0) := blk_cell HP1.out.A 2
              have f0 := blk_frozen HP1.out.A 0
              have f1 := blk_frozen HP1.out.A 1
              have f2 := blk_frozen HP1.out.A 2
              have hwl : w.heap.size < W3.heap.size := blk_lt HP1.out.A
              go_wp2_with fail
              refine bodyPost_ret (results_ct rfl _ _ w.heap.size 35 #[.string ⟨#[]⟩, .slice none 0 0, .slice none 0 0] (0, 0) _ rfl (by (try refine blk_alloc ?_ _); refine blk_put (cs := #[.string ⟨#[]⟩, .slice none 0 0, .slice none 0 0]) ?_ 2 _ rfl; refine blk_put (cs := #[.string ⟨#[]⟩, .slice none 0 0, .slice none 0 0]) ?_ 1 _ rfl; refine blk_put (cs := #[.string ⟨#[]⟩, .slice none 0 0, .slice none 0 0]) ?_ 0 _ rfl; first | exact HP1.out.A | exact blk_alloc HP1.out.A _) Tryd.underlying35 rfl (by kernel_rfl)) rfl ?_
              exact ⟨_, _, rfl, Kd.R_nil _ _ _ _ _, Kd.R_nil _ _ _ _ _, (by repeat (first | exact HP1.out.B | apply below_alloc | refine below_set ?_ (Nat.le_refl _)))⟩
            cases two
            case false =>
              have q0 : W3.cell? ⟨w.heap.size, 0, none⟩ = some (.string ⟨#[]⟩) := blk_cell HP1.out.A 0
              have q1 : W3.cell? ⟨w.heap.size, 1, none⟩ = some (.slice none 0 0) := blk_cell HP1.out.A 1
              have q2 : W3.cell? ⟨w.heap.size, 2, none⟩ = some (.slice none 0 0) := blk_cell HP1.out.A 2
              have f0 := blk_frozen HP1.out.A 0
              have f1 := blk_frozen HP1.out.A 1
              have f2 := blk_frozen HP1.out.A 2
              have hwl : w.heap.size < W3.heap.size := blk_lt HP1.out.A
              go_wp2_with fail
              refine bodyPost_ret (results_ct rfl _ _ w.heap.size 35 #[.string ⟨#[]⟩, .slice none 0 0, .slice none 0 0] (0, 0) _ rfl (by (try refine blk_alloc ?_ _); refine blk_put (cs := #[.string ⟨#[]⟩, .slice none 0 0, .slice none 0 0]) ?_ 2 _ rfl; refine blk_put (cs := #[.string ⟨#[]⟩, .slice none 0 0, .slice none 0 0]) ?_ 1 _ rfl; refine blk_put (cs := #[.string ⟨#[]⟩, .slice none 0 0, .slice none 0 0]) ?_ 0 _ rfl; first | exact HP1.out.A | exact blk_alloc HP1.out.A _) Tryd.underlying35 rfl (by kernel_rfl)) rfl ?_
              exact ⟨_, _, rfl, Kd.R_nil _ _ _ _ _, Kd.R_nil _ _ _ _ _, (by repeat (first | exact HP1.out.B | apply below_alloc | refine below_set ?_ (Nat.le_refl _)))⟩
            cases right
            case false =>
              have q0 : W3.cell? ⟨w.heap.size, 0, none⟩ = some (.string ⟨#[]⟩) := blk_cell HP1.out.A 0
              have q1 : W3.cell? ⟨w.heap.size, 1, none⟩ = some (.slice none 0 0) := blk_cell HP1.out.A 1
              have q2 : W3.cell? ⟨w.heap.size, 2, none⟩ = some (.slice none 0 0) := blk_cell HP1.out.A 2
              have f0 := blk_frozen HP1.out.A 0
              have f1 := blk_frozen HP1.out.A 1
              have f2 := blk_frozen HP1.out.A 2
              have hwl : w.heap.size < W3.heap.size := blk_lt HP1.out.A
              go_wp2_with fail
              refine bodyPost_ret (results_ct rfl _ _ w.heap.size 35 #[.string ⟨#[]⟩, .slice none 0 0, .slice none 0 0] (0, 0) _ rfl (by (try refine blk_alloc ?_ _); refine blk_put (cs := #[.string ⟨#[]⟩, .slice none 0 0, .slice none 0 0]) ?_ 2 _ rfl; refine blk_put (cs := #[.string ⟨#[]⟩, .slice none 0 0, .slice none 0 0]) ?_ 1 _ rfl; refine blk_put (cs := #[.string ⟨#[]⟩, .slice none 0 0, .slice none 0 0]) ?_ 0 _ rfl; first | exact HP1.out.A | exact blk_alloc HP1.out.A _) Tryd.underlying35 rfl (by kernel_rfl)) rfl ?_
              exact ⟨_, _, rfl, Kd.R_nil _ _ _ _ _, Kd.R_nil _ _ _ _ _, (by repeat (first | exact HP1.out.B | apply below_alloc | refine below_set ?_ (Nat.le_refl _)))⟩
            have hp : path.toList = [] := Classical.byContradiction (fun h => hall ⟨rfl, rfl, rfl, h⟩)
            clear hall
            have hp1 : (path.toList == []) = true := beq_iff_eq.2 hp
            have hp2 : (path.toList != []) = false := bne_eq_false_iff_eq.2 hp
            clear hp
            have q0 : W3.cell? ⟨w.heap.size, 0, none⟩ = some (.string ⟨#[]⟩) := blk_cell HP1.out.A 0
            have q1 : W3.cell? ⟨w.heap.size, 1, none⟩ = some (.slice none 0 0) := blk_cell HP1.out.A 1
            have q2 : W3.cell? ⟨w.heap.size, 2, none⟩ = some (.slice none 0 0) := blk_cell HP1.out.A 2
            have f0 := blk_frozen HP1.out.A 0
            have f1 := blk_frozen HP1.out.A 1
            have f2 := blk_frozen HP1.out.A 2
            have hwl : w.heap.size < W3.heap.size := blk_lt HP1.out.A
            go_wp2_with fail
            refine bodyPost_ret (results_ct rfl _ _ w.heap.size 35 #[.string ⟨#[]⟩, .slice none 0 0, .slice none 0 0] (0, 0) _ rfl (by (try refine blk_alloc ?_ _); refine blk_put (cs := #[.string ⟨#[]⟩, .slice none 0 0, .slice none 0 0]) ?_ 2 _ rfl; refine blk_put (cs := #[.string ⟨#[]⟩, .slice none 0 0, .slice none 0 0]) ?_ 1 _ rfl; refine blk_put (cs := #[.string ⟨#[]⟩, .slice none 0 0, .slice none 0 0]) ?_ 0 _ rfl; first | exact HP1.out.A | exact blk_alloc HP1.out.A _) Tryd.underlying35 rfl (by kernel_rfl)) rfl ?_
            exact ⟨_, _, rfl, Kd.R_nil _ _ _ _ _, Kd.R_nil _ _ _ _ _, (by repeat (first | exact HP1.out.B | apply below_alloc | refine below_set ?_ (Nat.le_refl _)))⟩


end Go.Proofs.YthagabjcoknogaaDoor.PAssetJoined
