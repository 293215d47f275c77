/- For TreeTranslates: The sections of a site, walked: a map of the first page of kind 2 for each language and key. No condition. -/
import Derived.Test.YtcgmieeojngceaaDoorScratchA
namespace Go.Proofs.YtcgmieeojngceaaDoor.PTreeTranslates
open Go.RowKit Go.Proofs.YtcgmieeojngceaaDoorW.PrintWords Go.Proofs.YtcgmieeojngceaaDoorW.PrintLast Go.Proofs.YtcgmieeojngceaaDoorW.PrintMore
set_option linter.unusedVariables false
set_option linter.unusedSimpArgs false
def sec (l1 : List S39) : Nat → List ((ByteArray × ByteArray) × Int)
  | 0 => []
  | j + 1 => if (rd_T39 l1 j).f4 = 2 then (if (Mp.look (sec l1 j) ((rd_T39 l1 j).f2, (rd_T39 l1 j).f1)).isSome = true then sec l1 j else (((rd_T39 l1 j).f2, (rd_T39 l1 j).f1), (j : Int)) :: sec l1 j) else sec l1 j
theorem sec_no {l1 : List S39} {j : Nat} (h : ¬ (rd_T39 l1 j).f4 = 2) : sec l1 (j + 1) = sec l1 j := by rw [sec, if_neg h]
theorem sec_old {l1 : List S39} {j : Nat} (h : (rd_T39 l1 j).f4 = 2) (h2 : (Mp.look (sec l1 j) ((rd_T39 l1 j).f2, (rd_T39 l1 j).f1)).isSome = true) : sec l1 (j + 1) = sec l1 j := by rw [sec, if_pos h, if_pos h2]
theorem sec_new {l1 : List S39} {j : Nat} (h : (rd_T39 l1 j).f4 = 2) (h2 : ¬ (Mp.look (sec l1 j) ((rd_T39 l1 j).f2, (rd_T39 l1 j).f1)).isSome = true) : sec l1 (j + 1) = (((rd_T39 l1 j).f2, (rd_T39 l1 j).f1), (j : Int)) :: sec l1 j := by rw [sec, if_pos h, if_neg h2]
structure SecAt (w : World) (b : Nat) (u v : Value) (l : List ((ByteArray × ByteArray) × Int)) (W : World) : Prop where
  Q : W.heap[w.heap.size]? = some (.cells #[u, v] 25 (0, 0))
  M : Mp.Is Tryd.prog 56 E2 VI b l W
  B : Below w.heap.size w W
  N : w.heap.size < b
theorem SecAt.below {w W W1 : World} {b : Nat} {u v : Value} {l : List ((ByteArray × ByteArray) × Int)} (h : SecAt w b u v l W) (hb : Below W.heap.size W W1) : SecAt w b u v l W1 :=
  ⟨blk_below h.Q hb, h.M.below hb, below_step h.B hb, h.N⟩
theorem SecAt.put {w W W1 : World} {b : Nat} {u v : Value} {l l' : List ((ByteArray × ByteArray) × Int)} (h : SecAt w b u v l W) (hm : Mp.Is Tryd.prog 56 E2 VI b l' W1) (hg : W.grownBy W1 (some b)) : SecAt w b u v l' W1 :=
  ⟨Mp.blk_grown hg h.Q (Nat.ne_of_lt h.N), hm, h.B.trans (Mp.grown_below hg (Nat.le_of_lt h.N) (below_size h.B)), h.N⟩
/-- thirteen cells are written into a block that is new -/
theorem put13 {W : World} {g : Nat} {c0 c1 c2 c3 c4 c5 c6 c7 c8 c9 c10 c11 c12 : Value} (h : W.heap[g]? = some (.cells #[c0, c1, c2, c3, c4, c5, c6, c7, c8, c9, c10, c11, c12] 39 (0, 0))) (v0 v1 v2 v3 v4 v5 v6 v7 v8 v9 v10 v11 v12 : Value) :
    (((((((((((((W.setCell ⟨g, 0, none⟩ v0).setCell ⟨g, 1, none⟩ v1).setCell ⟨g, 2, none⟩ v2).setCell ⟨g, 3, none⟩ v3).setCell ⟨g, 4, none⟩ v4).setCell ⟨g, 5, none⟩ v5).setCell ⟨g, 6, none⟩ v6).setCell ⟨g, 7, none⟩ v7).setCell ⟨g, 8, none⟩ v8).setCell ⟨g, 9, none⟩ v9).setCell ⟨g, 10, none⟩ v10).setCell ⟨g, 11, none⟩ v11).setCell ⟨g, 12, none⟩ v12).heap[g]? = some (.cells #[v0, v1, v2, v3, v4, v5, v6, v7, v8, v9, v10, v11, v12] 39 (0, 0)) := by
  have h0 := blk_put (cs' := #[v0, c1, c2, c3, c4, c5, c6, c7, c8, c9, c10, c11, c12]) h 0 v0 rfl
  have h1 := blk_put (cs' := #[v0, v1, c2, c3, c4, c5, c6, c7, c8, c9, c10, c11, c12]) h0 1 v1 rfl
  have h2 := blk_put (cs' := #[v0, v1, v2, c3, c4, c5, c6, c7, c8, c9, c10, c11, c12]) h1 2 v2 rfl
  have h3 := blk_put (cs' := #[v0, v1, v2, v3, c4, c5, c6, c7, c8, c9, c10, c11, c12]) h2 3 v3 rfl
  have h4 := blk_put (cs' := #[v0, v1, v2, v3, v4, c5, c6, c7, c8, c9, c10, c11, c12]) h3 4 v4 rfl
  have h5 := blk_put (cs' := #[v0, v1, v2, v3, v4, v5, c6, c7, c8, c9, c10, c11, c12]) h4 5 v5 rfl
  have h6 := blk_put (cs' := #[v0, v1, v2, v3, v4, v5, v6, c7, c8, c9, c10, c11, c12]) h5 6 v6 rfl
  have h7 := blk_put (cs' := #[v0, v1, v2, v3, v4, v5, v6, v7, c8, c9, c10, c11, c12]) h6 7 v7 rfl
  have h8 := blk_put (cs' := #[v0, v1, v2, v3, v4, v5, v6, v7, v8, c9, c10, c11, c12]) h7 8 v8 rfl
  have h9 := blk_put (cs' := #[v0, v1, v2, v3, v4, v5, v6, v7, v8, v9, c10, c11, c12]) h8 9 v9 rfl
  have h10 := blk_put (cs' := #[v0, v1, v2, v3, v4, v5, v6, v7, v8, v9, v10, c11, c12]) h9 10 v10 rfl
  have h11 := blk_put (cs' := #[v0, v1, v2, v3, v4, v5, v6, v7, v8, v9, v10, v11, c12]) h10 11 v11 rfl
  have h12 := blk_put (cs' := #[v0, v1, v2, v3, v4, v5, v6, v7, v8, v9, v10, v11, v12]) h11 12 v12 rfl
  exact h12
theorem bel13 {W W0 : World} {g : Nat} (h : Below W.heap.size W W0) (hg : W.heap.size ≤ g) (v0 v1 v2 v3 v4 v5 v6 v7 v8 v9 v10 v11 v12 : Value) :
    Below W.heap.size W (((((((((((((W0.setCell ⟨g, 0, none⟩ v0).setCell ⟨g, 1, none⟩ v1).setCell ⟨g, 2, none⟩ v2).setCell ⟨g, 3, none⟩ v3).setCell ⟨g, 4, none⟩ v4).setCell ⟨g, 5, none⟩ v5).setCell ⟨g, 6, none⟩ v6).setCell ⟨g, 7, none⟩ v7).setCell ⟨g, 8, none⟩ v8).setCell ⟨g, 9, none⟩ v9).setCell ⟨g, 10, none⟩ v10).setCell ⟨g, 11, none⟩ v11).setCell ⟨g, 12, none⟩ v12) :=
  below_set (below_set (below_set (below_set (below_set (below_set (below_set (below_set (below_set (below_set (below_set (below_set (below_set h hg) hg) hg) hg) hg) hg) hg) hg) hg) hg) hg) hg) hg
set_option maxHeartbeats 1500000 in
set_option maxRecDepth 100000 in
theorem sec_calls (A0 : Option Addr) (c0 : Nat) (l0 : List ByteArray) (A1 : Option Addr) (c1 : Nat) (l1 : List S39) (w : World) (hr1 : Kd.C k39 w A1 l1.length l1) (hlen : (l1.length : Int) ≤ 9223372036854775807)
    (hz : ∀ j : Nat, j < l1.length → (rd_T39 l1 j).f1.size ≤ maxLen ∧ (rd_T39 l1 j).f2.size ≤ maxLen) :
    Calls Tryd.prog 11 #[.agg #[.slice A0 l0.length c0, .slice A1 l1.length c1]] w fun e w' => ∃ b, e = .returned (.map (some b)) ∧ w.heap.size ≤ b ∧ Mp.Is Tryd.prog 56 E2 VI b (sec l1 l1.length) w' ∧ Below w.heap.size w w' := by
  have HR := Aside0.mk hr1
  have HZ := Aside0.mk hz
  clear hr1 hz
  have hu25 := Tryd.underlying25
  have hu39 := Tryd.underlying39
  have hu37 := Tryd.underlying37
  have hmk := @run_makeMap Tryd.prog
  go_enter Tryd.func11, Tryd.ntmps11
  go_wp2_with fail
  have HS := Aside0.mk (show SecAt w (w.heap.size + 1) (.slice A0 l0.length c0) (.slice A1 l1.length c1) (sec l1 0) ((w.alloc (.cells #[.slice A0 l0.length c0, .slice A1 l1.length c1] 25)).alloc (.map #[] 0)) from
    ⟨blk_alloc (blk_new _ _) _, (by have := Mp.Is.made (κ := ByteArray × ByteArray) (w.alloc (.cells #[.slice A0 l0.length c0, .slice A1 l1.length c1] 25)) Tryd.prog 56 E2 VI; simpa [sec] using this), below_alloc (below_alloc (Below.refl _ _) _) _, Nat.lt_succ_self _⟩)
  generalize ((w.alloc (.cells #[.slice A0 l0.length c0, .slice A1 l1.length c1] 25)).alloc (.map #[] 0)) = w0 at HS ⊢
  generalize w.heap.size + 1 = b at HS ⊢
  have q0 : w0.cell? ⟨w.heap.size, 0, none⟩ = some (.slice A0 l0.length c0) := blk_cell HS.out.Q 0
  have q1 : w0.cell? ⟨w.heap.size, 1, none⟩ = some (.slice A1 l1.length c1) := blk_cell HS.out.Q 1
  go_wp2_with fail
  go_loopw [12] (fun i wr => ∃ j : Nat, j ≤ l1.length ∧ i = .int .i64 j ∧ Aside0 (SecAt w b (.slice A0 l0.length c0) (.slice A1 l1.length c1) (sec l1 j) wr)) (fun i _ => l1.length - (intOf i).toNat)
  case atStart => exact ⟨0, Nat.zero_le _, rfl, HS⟩
  case round =>
    clear HS q0 q1
    obtain ⟨j, hj, rfl, HS⟩ := hrel
    by_cases hlt : j < l1.length
    · obtain ⟨ad, A9, c9, A10, c10, A12, c12, rfl, x0, x1, x2, x3, x4, x5, x6, x7, x8, x9, x10, x11, x12, _, _, _, _, _, _⟩ := at_T39 (Kd.C_below HR.out HS.out.B) j (by omega) (by omega)
      obtain ⟨z1, z2⟩ := HZ.out j hlt
      have Z1 := Aside0.mk z1
      have Z2 := Aside0.mk z2
      clear z1 z2
      rw [Int.toNat_natCast] at x0 x1 x2 x3 x4 x5 x6 x7 x8 x9 x10 x11 x12
      generalize hx : rd_T39 l1 j = x at *
      have HX := Aside0.mk hx
      clear hx
      have hlt' : (j : Int) < (l1.length : Int) := by omega
      have q1 : wr.cell? ⟨w.heap.size, 1, none⟩ = some (.slice (some ad) l1.length c1) := blk_cell HS.out.Q 1
      have HG := Aside0.mk (blk_lt HS.out.Q)
      by_cases h2 : x.f4 = 2
      · have e2 : (x.f4 == 2) = true := beq_iff_eq.2 h2
        have H2 := Aside0.mk h2
        clear h2
        obtain ⟨q, hq⟩ := tm_q2 (x.f2, x.f1) Z2.out Z1.out
        by_cases h3 : (Mp.look (sec l1 j) (x.f2, x.f1)).isSome = true
        · have H3 := Aside0.mk h3
          go_wp2_with (at_lookup; refine Mp.wp_look rfl _ _ true rfl tm_k2 Tryd.underlying44 (tm_z3 _) E2_inj rfl (HS.out.below (below_alloc (Below.refl _ _) _)).M (x.f2, x.f1) q rfl hq ?_)
          go_round
          case measure => simp [intOf]; omega
          case rel => exact ⟨j + 1, by omega, by simp, ⟨by rw [sec_old (by rw [HX.out]; exact H2.out) (by rw [HX.out]; exact H3.out)]; exact HS.out.below (below_alloc (Below.refl _ _) _)⟩⟩
        · have H3 := Aside0.mk h3
          go_wp2_with (first | (at_lookup; refine Mp.wp_look rfl _ _ true rfl tm_k2 Tryd.underlying44 (tm_z3 _) E2_inj rfl (HS.out.below (below_alloc (Below.refl _ _) _)).M (x.f2, x.f1) q rfl hq ?_) | (at_mapUpdate; refine Mp.wp_put (V := VI) rfl _ _ _ rfl tm_k2 Tryd.underlying44 E2_inj rfl (HS.out.below (below_alloc (Below.refl _ _) _)).M (x.f2, x.f1) (j : Int) q rfl rfl hq ?_; intro w2 hm2 hg2; have HS2 := Aside0.mk ((HS.out.below (below_alloc (Below.refl _ _) _)).put hm2 hg2); clear HS hm2 hg2))
          go_round
          case measure => simp [intOf]; omega
          case rel => exact ⟨j + 1, by omega, by simp, ⟨by rw [sec_new (by rw [HX.out]; exact H2.out) (by rw [HX.out]; exact H3.out), HX.out]; exact HS2.out⟩⟩
      · have e2 : (x.f4 == 2) = false := beq_eq_false_iff_ne.2 h2
        have H2 := Aside0.mk h2
        clear h2
        go_wp2_with fail
        go_round
        case measure => simp [intOf]; omega
        case rel => exact ⟨j + 1, by omega, by simp, ⟨by rw [sec_no (by rw [HX.out]; exact H2.out)]; exact HS.out.below (below_alloc (Below.refl _ _) _)⟩⟩
    · obtain rfl : j = l1.length := by omega
      have hlt' : ¬ ((l1.length : Int) < (l1.length : Int)) := by omega
      go_wp2_with fail
      go_ret
      exact ⟨b, rfl, Nat.le_of_lt HS.out.N, HS.out.M, HS.out.B⟩
end Go.Proofs.YtcgmieeojngceaaDoor.PTreeTranslates
