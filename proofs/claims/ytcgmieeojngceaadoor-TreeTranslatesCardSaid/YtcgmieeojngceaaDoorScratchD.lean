/- For TreeTranslates: CheckSite, walked: languages, number of pages, the root, all pages. No condition. -/
import Derived.Test.YtcgmieeojngceaaDoorScratchC
namespace Go.Proofs.YtcgmieeojngceaaDoor.PTreeTranslates
open Go.RowKit Go.Proofs.YtcgmieeojngceaaDoorW.PrintWords Go.Proofs.YtcgmieeojngceaaDoorW.PrintLast Go.Proofs.YtcgmieeojngceaaDoorW.PrintMore
set_option linter.unusedVariables false
set_option linter.unusedSimpArgs false
def cs_rt (l0 : List ByteArray) (l1 : List S39) (j : Nat) : Bool := (rd_T39 l1 j).f1.toList == ([] : List UInt8) && (rd_T39 l1 j).f2.toList == (rdOf ByteArray.empty l0 0).toList
def cs_root (l0 : List ByteArray) (l1 : List S39) : Nat → Bool
 | 0 => false
 | j + 1 => cs_root l0 l1 j || cs_rt l0 l1 j
def cs_go (k : Nat) (l0 : List ByteArray) (l1 : List S39) (sc : PgS) : Nat → Nat → PgA → PgK → Option Int
 | 0, _, _, _ => some 0
 | n + 1, i, ad, ks => (pg k l0 l1 sc ad ks i).bind fun r => if r.1 = 0 then cs_go k l0 l1 sc n (i + 1) r.2.1 r.2.2 else some r.1
def cs_sized (l1 : List S39) : Prop := ∀ j : Nat, j < l1.length → (rd_T39 l1 j).f1.size ≤ maxLen ∧ (rd_T39 l1 j).f2.size ≤ maxLen
instance (l1 : List S39) : Decidable (cs_sized l1) := Nat.decidableBallLT l1.length (fun j _ => (rd_T39 l1 j).f1.size ≤ maxLen ∧ (rd_T39 l1 j).f2.size ≤ maxLen)
theorem cs_sized.at {l1 : List S39} (h : cs_sized l1) : ∀ j : Nat, j < l1.length → (rd_T39 l1 j).f1.size ≤ maxLen ∧ (rd_T39 l1 j).f2.size ≤ maxLen := h
def cs_tail (k : Nat) (l0 : List ByteArray) (l1 : List S39) : Option Int :=
 if 0 < l0.length ∧ cs_sized l1 then (if cs_root l0 l1 l1.length = true then cs_go k l0 l1 (sec l1 l1.length) l1.length 0 [] [] else some 1) else none
def tree_CheckSite.f (k : Nat) (l0 : List ByteArray) (l1 : List S39) : Option Int :=
 (tree_languagesFit.f k l0).bind fun b => if b = true then (if (l1.length : Int) > 1500 then some 4 else cs_tail k l0 l1) else some 12
structure CsAt (w : World) (u v : Value) (W : World) : Prop where
 Q : W.heap[w.heap.size]? = some (.cells #[u, v] 25 (0, 0))
 B : Below w.heap.size w W
section
variable {w W W1 : World} {u v : Value}
theorem CsAt.below (h : CsAt w u v W) (hb : Below W.heap.size W W1) : CsAt w u v W1 := ⟨blk_below h.Q hb, below_step h.B hb⟩
theorem CsAt.alloc (h : CsAt w u v W) (o : Obj) : CsAt w u v (W.alloc o) := h.below (below_alloc (Below.refl _ _) o)
theorem CsAt.drewN (h : CsAt w u v W) (n : Nat) : CsAt w u v (W.drewN n) := h.below (pw_below_drewN (Below.refl _ _) n)
theorem CsAt.drew (h : CsAt w u v W) : CsAt w u v W.drew := h.below (below_drew (Below.refl _ _))
structure FkAt (w : World) (u v : Value) (sc : PgS) (o1 o2 o3 : Option Nat) (W : World) : Prop where
 P : CsAt w u v W
 M1 : ∀ b, o1 = some b → Mp.Is Tryd.prog 56 E2 VI b sc W ∧ w.heap.size ≤ b
 M2 : ∀ b, o2 = some b → Mp.Is Tryd.prog 9 E1 VB b [] W ∧ w.heap.size ≤ b
 M3 : ∀ b, o3 = some b → Mp.Is Tryd.prog 60 E3 VB b [] W ∧ w.heap.size ≤ b
 D12 : ∀ a b, o1 = some a → o2 = some b → a ≠ b
 D13 : ∀ a b, o1 = some a → o3 = some b → a ≠ b
 D23 : ∀ a b, o2 = some a → o3 = some b → a ≠ b
theorem FkAt.one {sc : PgS} {o2 o3 : Option Nat} {b : Nat} (h : FkAt w u v sc none o2 o3 W) (hb : Below W.heap.size W W1) (hn : W.heap.size ≤ b) (hm : Mp.Is Tryd.prog 56 E2 VI b sc W1) : FkAt w u v sc (some b) o2 o3 W1 := by
 have hz := below_size h.P.B
 refine ⟨h.P.below hb, fun c e => ?_, fun c e => ⟨(h.M2 c e).1.below hb, (h.M2 c e).2⟩, fun c e => ⟨(h.M3 c e).1.below hb, (h.M3 c e).2⟩, fun a c e1 e2 => ?_, fun a c e1 e2 => ?_, h.D23⟩
 ·cases e; exact ⟨hm, by omega⟩
 ·cases e1; have := (h.M2 c e2).1.lt; omega
 ·cases e1; have := (h.M3 c e2).1.lt; omega
theorem FkAt.two {sc : PgS} {o1 o3 : Option Nat} (h : FkAt w u v sc o1 none o3 W) : FkAt w u v sc o1 (some W.heap.size) o3 (W.alloc (.map #[] 0)) := by
 have hz := below_size h.P.B
 have hb := below_alloc (Below.refl W.heap.size W) (.map #[] 0)
 refine ⟨h.P.below hb, fun c e => ⟨(h.M1 c e).1.below hb, (h.M1 c e).2⟩, fun c e => ?_, fun c e => ⟨(h.M3 c e).1.below hb, (h.M3 c e).2⟩, fun a c e1 e2 => ?_, h.D13, fun a c e1 e2 => ?_⟩
 ·cases e; exact ⟨Mp.Is.made W Tryd.prog 9 E1 VB, hz⟩
 ·cases e2; have := (h.M1 a e1).1.lt; omega
 ·cases e1; have := (h.M3 c e2).1.lt; omega
theorem FkAt.three {sc : PgS} {o1 o2 : Option Nat} (h : FkAt w u v sc o1 o2 none W) : FkAt w u v sc o1 o2 (some W.heap.size) (W.alloc (.map #[] 0)) := by
 have hz := below_size h.P.B
 have hb := below_alloc (Below.refl W.heap.size W) (.map #[] 0)
 refine ⟨h.P.below hb, fun c e => ⟨(h.M1 c e).1.below hb, (h.M1 c e).2⟩, fun c e => ⟨(h.M2 c e).1.below hb, (h.M2 c e).2⟩, fun c e => ?_, h.D12, fun a c e1 e2 => ?_, fun a c e1 e2 => ?_⟩
 ·cases e; exact ⟨Mp.Is.made W Tryd.prog 60 E3 VB, hz⟩
 ·cases e2; have := (h.M1 a e1).1.lt; omega
 ·cases e2; have := (h.M2 a e1).1.lt; omega
theorem FkAt.ck {sc : PgS} {b1 b2 b3 : Nat} (h : FkAt w u v sc (some b1) (some b2) (some b3) W) : CkAt w W.heap.size b1 b2 b3 u v sc [] [] (W.alloc (.cells #[u, v, .map (some b1), .map (some b2), .map (some b3)] 48)) :=
 have hb := below_alloc (Below.refl W.heap.size W) (.cells #[u, v, .map (some b1), .map (some b2), .map (some b3)] 48)
 ⟨blk_new _ _, (h.M1 _ rfl).1.below hb, (h.M2 _ rfl).1.below hb, (h.M3 _ rfl).1.below hb, below_step h.P.B hb, below_size h.P.B, (h.M2 _ rfl).2, (h.M3 _ rfl).2, h.D12 _ _ rfl rfl, h.D13 _ _ rfl rfl, h.D23 _ _ rfl rfl⟩
end
set_option maxHeartbeats 16000000 in
set_option maxRecDepth 100000 in
theorem cs_calls (k : Nat) (w : World) (A0 : Option Addr) (c0 : Nat) (l0 : List ByteArray) (A1 : Option Addr) (c1 : Nat) (l1 : List S39) (r : Int) (hr0 : Kd.C Kd.string w A0 l0.length l0) (hc0 : l0.length ≤ c0) (hr1 : Kd.C k39 w A1 l1.length l1) (h : tree_CheckSite.f k l0 l1 = some r) :
  Calls Tryd.prog 5 #[.agg #[.slice A0 l0.length c0, .slice A1 l1.length c1]] w fun e w' => e = .returned (.int .i64 r) ∧ Below w.heap.size w w' := by
 have HR0 := Aside0.mk hr0
 have HC0 := Aside0.mk hc0
 have HR1 := Aside0.mk hr1
 clear hr0 hr1 hc0
 have hu25 := Tryd.underlying25
 have hu37 := Tryd.underlying37
 have hu39 := Tryd.underlying39
 have hu48 := Tryd.underlying48
 have hmk := @run_makeMap Tryd.prog
 unfold tree_CheckSite.f at h
 obtain ⟨b, hb, h⟩ := Option.bind_eq_some_iff.1 h
 have HL := Aside0.mk hb
 clear hb
 go_enter Tryd.func5, Tryd.ntmps5
 go_upto_region 1 with (fail)
 have HP := Aside0.mk (show CsAt w (.slice A0 l0.length c0) (.slice A1 l1.length c1) (w.alloc (.cells #[.slice A0 l0.length c0, .slice A1 l1.length c1] 25)) from ⟨blk_new _ _, below_alloc (Below.refl _ _) _⟩)
 generalize w.alloc (.cells #[.slice A0 l0.length c0, .slice A1 l1.length c1] 25) = W1 at HP ⊢
 have y0 : W1.cell? ⟨w.heap.size, 0, none⟩ = some (.slice A0 l0.length c0) := (blk_cell HP.out.Q 0).trans rfl
 have y1 : W1.cell? ⟨w.heap.size, 1, none⟩ = some (.slice A1 l1.length c1) := (blk_cell HP.out.Q 1).trans rfl
 cases b
 case false =>
  cases h
  go_wp2_with (go_at_call 10; refine (tree_languagesFit.calls k A0 c0 l0 _ _ ?side1 HC0.out HL.out).mono ?_; (case side1 => exact Kd.C_below HR0.out HP.out.B); rintro e W2 ⟨rfl, hb⟩; have n1 := Aside0.mk (HP.out.below hb); clear HP hb y0 y1; have HP := n1; clear n1; have y0 : W2.cell? ⟨w.heap.size, 0, none⟩ = some (.slice A0 l0.length c0) := (blk_cell HP.out.Q 0).trans rfl; have y1 : W2.cell? ⟨w.heap.size, 1, none⟩ = some (.slice A1 l1.length c1) := (blk_cell HP.out.Q 1).trans rfl)
  go_ret
  exact ⟨rfl, HP.out.B⟩
 replace h : (if (l1.length : Int) > 1500 then some 4 else cs_tail k l0 l1) = some r := h
 by_cases hL : (l1.length : Int) > 1500
 ·rw [if_pos hL] at h
  cases h
  have e1 : decide ((l1.length : Int) > 1500) = true := decide_eq_true hL
  have e2 : decide (1500 < (l1.length : Int)) = true := decide_eq_true hL
  have e3 : decide (1500 < l1.length) = true := decide_eq_true (by omega)
  clear hL
  go_wp2_with (go_at_call 10; refine (tree_languagesFit.calls k A0 c0 l0 _ _ ?side1 HC0.out HL.out).mono ?_; (case side1 => exact Kd.C_below HR0.out HP.out.B); rintro e W2 ⟨rfl, hb⟩; have n1 := Aside0.mk (HP.out.below hb); clear HP hb y0 y1; have HP := n1; clear n1; have y0 : W2.cell? ⟨w.heap.size, 0, none⟩ = some (.slice A0 l0.length c0) := (blk_cell HP.out.Q 0).trans rfl; have y1 : W2.cell? ⟨w.heap.size, 1, none⟩ = some (.slice A1 l1.length c1) := (blk_cell HP.out.Q 1).trans rfl)
  go_ret
  exact ⟨rfl, HP.out.B⟩
 rw [if_neg hL] at h
 unfold cs_tail at h
 have hlen : l1.length ≤ 1500 := by omega
 have e1 : decide ((l1.length : Int) > 1500) = false := decide_eq_false hL
 have e2 : decide (1500 < (l1.length : Int)) = false := decide_eq_false hL
 have e3 : decide (1500 < l1.length) = false := decide_eq_false (by omega)
 clear hL
 split at h
 case isFalse => cases h
 rename_i hz
 obtain ⟨h0, hz⟩ := hz
 have HZ := Aside0.mk hz
 have HT := Aside0.mk h
 clear hz h
 obtain ⟨ad0, ead, z0⟩ := Kd.at_string HR0.out 0 (by omega) (by omega)
 cases ead
 rw [show ((0 : Int)).toNat = 0 from rfl, Addr.add_zero'] at z0
 have Z0 := Aside0.mk z0
 clear z0
 have h0' : (0 < l0.length) = True := eq_true h0
 have h0i : ((0 : Int) < (l0.length : Int)) := by omega
 have h0j : ((0 : Int) < (l0.length : Int)) = True := eq_true h0i
 go_wp2_with (go_at_call 10; refine (tree_languagesFit.calls k (some ad0) c0 l0 _ _ ?side1 HC0.out HL.out).mono ?_; (case side1 => exact Kd.C_below HR0.out HP.out.B); rintro e W2 ⟨rfl, hb⟩; have n1 := Aside0.mk (HP.out.below hb); clear HP hb y0 y1; have HP := n1; clear n1; have y0 : W2.cell? ⟨w.heap.size, 0, none⟩ = some (.slice (some ad0) l0.length c0) := (blk_cell HP.out.Q 0).trans rfl; have y1 : W2.cell? ⟨w.heap.size, 1, none⟩ = some (.slice A1 l1.length c1) := (blk_cell HP.out.Q 1).trans rfl)
 clear e1 e2 e3 y0 y1 HL
 have HP0 := HP
 clear HP
 go_loopw [3, 20] (fun b3 i wr => ∃ j : Nat, j ≤ l1.length ∧ i = .int .i64 j ∧ b3 = .bool (cs_root l0 l1 j) ∧ Aside0 (CsAt w (.slice (some ad0) l0.length c0) (.slice A1 l1.length c1) wr)) (fun _ i _ => l1.length - (intOf i).toNat)
 case atStart => exact ⟨0, Nat.zero_le _, rfl, rfl, HP0⟩
 case round =>
  clear HP0
  obtain ⟨j, hj, rfl, rfl, HP⟩ := hrel
  by_cases hlt : j < l1.length
  ·obtain ⟨ad, A9, c9, A10, c10, A12, c12, rfl, x0, x1, x2, x3, x4, x5, x6, x7, x8, x9, x10, x11, x12, _, _, _, _, _, _⟩ := at_T39 (Kd.C_below HR1.out HP.out.B) j (by omega) (by omega)
   rw [Int.toNat_natCast] at x0 x1 x2 x3 x4 x5 x6 x7 x8 x9 x10 x11 x12
   have hroot : cs_root l0 l1 (j + 1) = (cs_root l0 l1 j || ((rd_T39 l1 j).f1.toList == ([] : List UInt8) && (rd_T39 l1 j).f2.toList == (rdOf ByteArray.empty l0 0).toList)) := rfl
   have HG := Aside0.mk hroot
   clear hroot
   generalize hx : rd_T39 l1 j = x at *
   have HX := Aside0.mk hx
   clear hx
   generalize cs_root l0 l1 j = b3 at *
   have hlt' : (j : Int) < (l1.length : Int) := by omega
   have y0 : wr.cell? ⟨w.heap.size, 0, none⟩ = some (.slice (some ad0) l0.length c0) := (blk_cell HP.out.Q 0).trans rfl
   have y1 : wr.cell? ⟨w.heap.size, 1, none⟩ = some (.slice (some ad) l1.length c1) := (blk_cell HP.out.Q 1).trans rfl
   go_upto_region 9 with (fail)
   have n1 := Aside0.mk (HP.out.alloc (.cells #[.string x.f0, .string x.f1, .string x.f2, .string x.f3, .int .i64 x.f4, .int .i64 x.f5.f0, .bool x.f5.f1, .int .i64 x.f5.f2, .string x.f5.f3, .slice A9 x.f5.f4.length c9, .slice A10 x.f5.f5.length c10, .string x.f6, .slice A12 x.f7.length c12] 39))
   have BX := Aside0.mk (blk_new wr (.cells #[.string x.f0, .string x.f1, .string x.f2, .string x.f3, .int .i64 x.f4, .int .i64 x.f5.f0, .bool x.f5.f1, .int .i64 x.f5.f2, .string x.f5.f3, .slice A9 x.f5.f4.length c9, .slice A10 x.f5.f5.length c10, .string x.f6, .slice A12 x.f7.length c12] 39))
   clear HP y0 y1 x0 x1 x2 x3 x4 x5 x6 x7 x8 x9 x10 x11 x12
   have HP := n1
   clear n1
   have z0 : (wr.alloc (.cells #[.string x.f0, .string x.f1, .string x.f2, .string x.f3, .int .i64 x.f4, .int .i64 x.f5.f0, .bool x.f5.f1, .int .i64 x.f5.f2, .string x.f5.f3, .slice A9 x.f5.f4.length c9, .slice A10 x.f5.f5.length c10, .string x.f6, .slice A12 x.f7.length c12] 39)).cell? ad0 = some (.string (rdOf ByteArray.empty l0 0)) := (HP.out.B.cell (World.block_lt_of_cell? w _ Z0.out)).trans Z0.out
   generalize (wr.alloc (.cells #[.string x.f0, .string x.f1, .string x.f2, .string x.f3, .int .i64 x.f4, .int .i64 x.f5.f0, .bool x.f5.f1, .int .i64 x.f5.f2, .string x.f5.f3, .slice A9 x.f5.f4.length c9, .slice A10 x.f5.f5.length c10, .string x.f6, .slice A12 x.f7.length c12] 39)) = W3 at HP BX z0 ⊢
   generalize wr.heap.size = gx at BX ⊢
   have y0 : W3.cell? ⟨w.heap.size, 0, none⟩ = some (.slice (some ad0) l0.length c0) := (blk_cell HP.out.Q 0).trans rfl
   have y1 : W3.cell? ⟨w.heap.size, 1, none⟩ = some (.slice (some ad) l1.length c1) := (blk_cell HP.out.Q 1).trans rfl
   have x1 : W3.cell? ⟨gx, 1, none⟩ = some (.string x.f1) := (blk_cell BX.out 1).trans rfl
   have x2 : W3.cell? ⟨gx, 2, none⟩ = some (.string x.f2) := (blk_cell BX.out 2).trans rfl
   cases b3
   case true =>
    have n1 := Aside0.mk HP.out.drew
    have n2 := Aside0.mk (show (W3.drew).heap[gx]? = some (.cells #[.string x.f0, .string x.f1, .string x.f2, .string x.f3, .int .i64 x.f4, .int .i64 x.f5.f0, .bool x.f5.f1, .int .i64 x.f5.f2, .string x.f5.f3, .slice A9 x.f5.f4.length c9, .slice A10 x.f5.f5.length c10, .string x.f6, .slice A12 x.f7.length c12] 39 (0, 0)) from BX.out)
    replace z0 : W3.drew.cell? ad0 = _ := z0
    clear HP BX y0 y1 x1 x2
    have HP := n1
    have BX := n2
    clear n1 n2
    refine start_ (n := 16) (S := fun w' => w'.cell? ⟨w.heap.size, 0, none⟩ = some (.slice (some ad0) l0.length c0) ∧ w'.cell? ⟨gx, 1, none⟩ = some (.string x.f1) ∧ w'.cell? ⟨gx, 2, none⟩ = some (.string x.f2) ∧ w'.cell? ad0 = some (.string (rdOf ByteArray.empty l0 0))) (ds := []) #[false, false, false, false, false, false, false, false, false, false, false, false, false, false, false, false] (by kernel_rfl) rfl rfl ⟨(blk_cell HP.out.Q 0), (blk_cell BX.out 1), (blk_cell BX.out 2), z0⟩ (fun hHeld => ?_)
    generalize W3.drew = W4 at HP BX z0 hHeld ⊢
    refine pure_ (i := 0) (N := some 24) (v := ?_) (a' := ?_) (ob 16 1) rfl rfl (by kernel_rfl) (fun _ _ _ h => h) (Or.inl ⟨by rfl, ?_⟩) ?_ ?_
    rotate_left
    ·intro w'
     go_simp
     with_reducible rfl
    rotate_left
    ·simp only [Act.put, List.setIfInBounds_toArray, List.set_cons_zero, List.set_cons_succ, i64_w, i32_w]
     rfl
    refine pure_ (i := 1) (N := some 25) (v := ?_) (a' := ?_) (ob 16 3) rfl rfl (by kernel_rfl) (fun _ _ _ h => h) (Or.inl ⟨by rfl, ?_⟩) ?_ ?_
    rotate_left
    ·intro w'
     go_simp
     with_reducible rfl
    rotate_left
    ·simp only [Act.put, List.setIfInBounds_toArray, List.set_cons_zero, List.set_cons_succ, i64_w, i32_w]
     rfl
    refine pure_ (i := 2) (N := some 26) (v := undef) (a' := ?_) (ob 16 7) rfl rfl (by kernel_rfl) (fun _ _ _ h => h) (Or.inr ⟨by rfl, rfl⟩) ?_ ?_
    rotate_left
    ·simp only [Act.put, List.setIfInBounds_toArray, List.set_cons_zero, List.set_cons_succ, i64_w, i32_w]
     rfl
    refine pure_ (i := 3) (N := some 27) (v := undef) (a' := ?_) (ob 16 15) rfl rfl (by kernel_rfl) (fun _ _ _ h => h) (Or.inr ⟨by rfl, rfl⟩) ?_ ?_
    rotate_left
    ·simp only [Act.put, List.setIfInBounds_toArray, List.set_cons_zero, List.set_cons_succ, i64_w, i32_w]
     rfl
    refine pure_ (i := 4) (N := some 28) (v := undef) (a' := ?_) (ob 16 31) rfl rfl (by kernel_rfl) (fun _ _ _ h => h) (Or.inr ⟨by rfl, rfl⟩) ?_ ?_
    rotate_left
    ·simp only [Act.put, List.setIfInBounds_toArray, List.set_cons_zero, List.set_cons_succ, i64_w, i32_w]
     rfl
    refine pure_ (i := 5) (N := some 29) (v := undef) (a' := ?_) (ob 16 63) rfl rfl (by kernel_rfl) (fun _ _ _ h => h) (Or.inr ⟨by rfl, rfl⟩) ?_ ?_
    rotate_left
    ·simp only [Act.put, List.setIfInBounds_toArray, List.set_cons_zero, List.set_cons_succ, i64_w, i32_w]
     rfl
    refine pure_ (i := 6) (N := some 30) (v := undef) (a' := ?_) (ob 16 127) rfl rfl (by kernel_rfl) (fun _ _ _ h => h) (Or.inr ⟨by rfl, rfl⟩) ?_ ?_
    rotate_left
    ·simp only [Act.put, List.setIfInBounds_toArray, List.set_cons_zero, List.set_cons_succ, i64_w, i32_w]
     rfl
    refine pure_ (i := 7) (N := some 31) (v := undef) (a' := ?_) (ob 16 255) rfl rfl (by kernel_rfl) (fun _ _ _ h => h) (Or.inr ⟨by rfl, rfl⟩) ?_ ?_
    rotate_left
    ·simp only [Act.put, List.setIfInBounds_toArray, List.set_cons_zero, List.set_cons_succ, i64_w, i32_w]
     rfl
    refine pure_ (i := 8) (N := some 32) (v := undef) (a' := ?_) (ob 16 511) rfl rfl (by kernel_rfl) (fun _ _ _ h => h) (Or.inr ⟨by rfl, rfl⟩) ?_ ?_
    rotate_left
    ·simp only [Act.put, List.setIfInBounds_toArray, List.set_cons_zero, List.set_cons_succ, i64_w, i32_w]
     rfl
    refine pure_ (i := 9) (N := some 33) (v := undef) (a' := ?_) (ob 16 1023) rfl rfl (by kernel_rfl) (fun _ _ _ h => h) (Or.inr ⟨by rfl, rfl⟩) ?_ ?_
    rotate_left
    ·simp only [Act.put, List.setIfInBounds_toArray, List.set_cons_zero, List.set_cons_succ, i64_w, i32_w]
     rfl
    refine pure_ (i := 10) (N := some 34) (v := undef) (a' := ?_) (ob 16 2047) rfl rfl (by kernel_rfl) (fun _ _ _ h => h) (Or.inr ⟨by rfl, rfl⟩) ?_ ?_
    rotate_left
    ·simp only [Act.put, List.setIfInBounds_toArray, List.set_cons_zero, List.set_cons_succ, i64_w, i32_w]
     rfl
    refine pure_ (i := 11) (N := some 35) (v := undef) (a' := ?_) (ob 16 4095) rfl rfl (by kernel_rfl) (fun _ _ _ h => h) (Or.inr ⟨by rfl, rfl⟩) ?_ ?_
    rotate_left
    ·simp only [Act.put, List.setIfInBounds_toArray, List.set_cons_zero, List.set_cons_succ, i64_w, i32_w]
     rfl
    refine pure_ (i := 12) (N := some 36) (v := undef) (a' := ?_) (ob 16 8191) rfl rfl (by kernel_rfl) (fun _ _ _ h => h) (Or.inr ⟨by rfl, rfl⟩) ?_ ?_
    rotate_left
    ·simp only [Act.put, List.setIfInBounds_toArray, List.set_cons_zero, List.set_cons_succ, i64_w, i32_w]
     rfl
    refine pure_ (i := 13) (N := some 37) (v := undef) (a' := ?_) (ob 16 16383) rfl rfl (by kernel_rfl) (fun _ _ _ h => h) (Or.inr ⟨by rfl, rfl⟩) ?_ ?_
    rotate_left
    ·simp only [Act.put, List.setIfInBounds_toArray, List.set_cons_zero, List.set_cons_succ, i64_w, i32_w]
     rfl
    refine pure_ (i := 14) (N := some 38) (v := ?_) (a' := ?_) (ob 16 32767) rfl rfl (by kernel_rfl) (fun _ _ _ h => h) (Or.inl ⟨by rfl, ?_⟩) ?_ ?_
    rotate_left
    ·intro w'
     go_simp
     with_reducible rfl
    rotate_left
    ·simp only [Act.put, List.setIfInBounds_toArray, List.set_cons_zero, List.set_cons_succ, i64_w, i32_w]
     rfl
    refine pure_ (i := 15) (N := some 3) (v := ?_) (a' := ?_) (ob 16 65535) rfl rfl (by kernel_rfl) (fun _ _ _ h => h) (Or.inl ⟨by rfl, ?_⟩) ?_ ?_
    rotate_left
    ·intro w'
     go_simp
     with_reducible rfl
    rotate_left
    ·simp only [Act.put, List.setIfInBounds_toArray, List.set_cons_zero, List.set_cons_succ, i64_w, i32_w]
     rfl
    refine done_ (by kernel_rfl) ?_
    clear hHeld z0
    go_wp2_with fail
    go_round
    case measure => simp [intOf]; omega
    case rel => exact ⟨j + 1, by omega, by simp, by rw [HG.out]; simp, HP⟩
   by_cases q1 : x.f1.toList = []
   ·have e1 : (x.f1.toList == []) = true := beq_iff_eq.2 q1
    have e2 : (x.f1.toList != []) = false := bne_eq_false_iff_eq.2 q1
    have HE := Aside0.mk e1
    clear q1
    have n1 := Aside0.mk HP.out.drew
    have n2 := Aside0.mk (show (W3.drew).heap[gx]? = some (.cells #[.string x.f0, .string x.f1, .string x.f2, .string x.f3, .int .i64 x.f4, .int .i64 x.f5.f0, .bool x.f5.f1, .int .i64 x.f5.f2, .string x.f5.f3, .slice A9 x.f5.f4.length c9, .slice A10 x.f5.f5.length c10, .string x.f6, .slice A12 x.f7.length c12] 39 (0, 0)) from BX.out)
    replace z0 : W3.drew.cell? ad0 = _ := z0
    clear HP BX y0 y1 x1 x2
    have HP := n1
    have BX := n2
    clear n1 n2
    refine start_ (n := 16) (S := fun w' => w'.cell? ⟨w.heap.size, 0, none⟩ = some (.slice (some ad0) l0.length c0) ∧ w'.cell? ⟨gx, 1, none⟩ = some (.string x.f1) ∧ w'.cell? ⟨gx, 2, none⟩ = some (.string x.f2) ∧ w'.cell? ad0 = some (.string (rdOf ByteArray.empty l0 0))) (ds := []) #[false, false, false, false, false, false, false, false, false, false, false, false, false, false, false, false] (by kernel_rfl) rfl rfl ⟨(blk_cell HP.out.Q 0), (blk_cell BX.out 1), (blk_cell BX.out 2), z0⟩ (fun hHeld => ?_)
    generalize W3.drew = W4 at HP BX z0 hHeld ⊢
    refine pure_ (i := 0) (N := some 24) (v := ?_) (a' := ?_) (ob 16 1) rfl rfl (by kernel_rfl) (fun _ _ _ h => h) (Or.inl ⟨by rfl, ?_⟩) ?_ ?_
    rotate_left
    ·intro w'
     go_simp
     with_reducible rfl
    rotate_left
    ·simp only [Act.put, List.setIfInBounds_toArray, List.set_cons_zero, List.set_cons_succ, i64_w, i32_w]
     rfl
    refine pure_ (i := 1) (N := some 25) (v := ?_) (a' := ?_) (ob 16 3) rfl rfl (by kernel_rfl) (fun _ _ _ h => h) (Or.inl ⟨by rfl, ?_⟩) ?_ ?_
    rotate_left
    ·intro w'
     go_simp
     with_reducible rfl
    rotate_left
    ·simp only [Act.put, List.setIfInBounds_toArray, List.set_cons_zero, List.set_cons_succ, i64_w, i32_w]
     rfl
    refine pure_ (i := 2) (N := some 26) (v := ?_) (a' := ?_) (ob 16 7) rfl rfl (by kernel_rfl) (fun _ _ _ h => h) (Or.inl ⟨by rfl, ?_⟩) ?_ ?_
    rotate_left
    ·intro w'
     go_simp
     with_reducible rfl
    rotate_left
    ·simp only [Act.put, List.setIfInBounds_toArray, List.set_cons_zero, List.set_cons_succ, i64_w, i32_w]
     rfl
    refine take_ (i := 3) (N := some 27) (v := ?_) (a' := ?_) (ob 16 15) rfl rfl (by kernel_rfl) (fun _ _ _ h => h) (Or.inl ⟨by rfl, ?_⟩) hHeld ?_ ?_
    rotate_left
    ·rintro w' ⟨s0, s1, s2, s3⟩
     go_simp
     with_reducible rfl
    rotate_left
    ·simp only [Act.put, List.setIfInBounds_toArray, List.set_cons_zero, List.set_cons_succ, i64_w, i32_w]
     rfl
    refine pure_ (i := 4) (N := some 28) (v := ?_) (a' := ?_) (ob 16 31) rfl rfl (by kernel_rfl) (fun _ _ _ h => h) (Or.inl ⟨by rfl, ?_⟩) ?_ ?_
    rotate_left
    ·intro w'
     go_simp
     with_reducible rfl
    rotate_left
    ·simp only [Act.put, List.setIfInBounds_toArray, List.set_cons_zero, List.set_cons_succ, i64_w, i32_w]
     rfl
    refine pure_ (i := 5) (N := some 29) (v := ?_) (a' := ?_) (ob 16 63) rfl rfl (by kernel_rfl) (fun _ _ _ h => h) (Or.inl ⟨by rfl, ?_⟩) ?_ ?_
    rotate_left
    ·intro w'
     go_simp
     with_reducible rfl
    rotate_left
    ·simp only [Act.put, List.setIfInBounds_toArray, List.set_cons_zero, List.set_cons_succ, i64_w, i32_w]
     rfl
    refine pure_ (i := 6) (N := some 30) (v := ?_) (a' := ?_) (ob 16 127) rfl rfl (by kernel_rfl) (fun _ _ _ h => h) (Or.inl ⟨by rfl, ?_⟩) ?_ ?_
    rotate_left
    ·intro w'
     go_simp
     with_reducible rfl
    rotate_left
    ·simp only [Act.put, List.setIfInBounds_toArray, List.set_cons_zero, List.set_cons_succ, i64_w, i32_w]
     rfl
    refine pure_ (i := 8) (N := some 32) (v := ?_) (a' := ?_) (ob 16 383) rfl rfl (by kernel_rfl) (fun _ _ _ h => h) (Or.inl ⟨by rfl, ?_⟩) ?_ ?_
    rotate_left
    ·intro w'
     go_simp
     with_reducible rfl
    rotate_left
    ·simp only [Act.put, List.setIfInBounds_toArray, List.set_cons_zero, List.set_cons_succ, i64_w, i32_w]
     rfl
    refine take_ (i := 7) (N := some 31) (v := ?_) (a' := ?_) (ob 16 511) rfl rfl (by kernel_rfl) (fun _ _ _ h => h) (Or.inl ⟨by rfl, ?_⟩) hHeld ?_ ?_
    rotate_left
    ·rintro w' ⟨s0, s1, s2, s3⟩
     go_simp
     with_reducible rfl
    rotate_left
    ·simp only [Act.put, List.setIfInBounds_toArray, List.set_cons_zero, List.set_cons_succ, i64_w, i32_w]
     rfl
    refine take_ (i := 9) (N := some 33) (v := ?_) (a' := ?_) (ob 16 1023) rfl rfl (by kernel_rfl) (fun _ _ _ h => h) (Or.inl ⟨by rfl, ?_⟩) hHeld ?_ ?_
    rotate_left
    ·rintro w' ⟨s0, s1, s2, s3⟩
     go_simp
     with_reducible rfl
    rotate_left
    ·simp only [Act.put, List.setIfInBounds_toArray, List.set_cons_zero, List.set_cons_succ, i64_w, i32_w]
     rfl
    refine pure_ (i := 10) (N := some 34) (v := ?_) (a' := ?_) (ob 16 2047) rfl rfl (by kernel_rfl) (fun _ _ _ h => h) (Or.inl ⟨by rfl, ?_⟩) ?_ ?_
    rotate_left
    ·intro w'
     go_simp
     with_reducible rfl
    rotate_left
    ·simp only [Act.put, List.setIfInBounds_toArray, List.set_cons_zero, List.set_cons_succ, i64_w, i32_w]
     rfl
    refine take_ (i := 11) (N := some 35) (v := ?_) (a' := ?_) (ob 16 4095) rfl rfl (by kernel_rfl) (fun _ _ _ h => h) (Or.inl ⟨by rfl, ?_⟩) hHeld ?_ ?_
    rotate_left
    ·rintro w' ⟨s0, s1, s2, s3⟩
     go_simp
     with_reducible rfl
    rotate_left
    ·simp only [Act.put, List.setIfInBounds_toArray, List.set_cons_zero, List.set_cons_succ, i64_w, i32_w]
     rfl
    refine pure_ (i := 12) (N := some 36) (v := ?_) (a' := ?_) (ob 16 8191) rfl rfl (by kernel_rfl) (fun _ _ _ h => h) (Or.inl ⟨by rfl, ?_⟩) ?_ ?_
    rotate_left
    ·intro w'
     go_simp
     with_reducible rfl
    rotate_left
    ·simp only [Act.put, List.setIfInBounds_toArray, List.set_cons_zero, List.set_cons_succ, i64_w, i32_w]
     rfl
    refine pure_ (i := 13) (N := some 37) (v := ?_) (a' := ?_) (ob 16 16383) rfl rfl (by kernel_rfl) (fun _ _ _ h => h) (Or.inl ⟨by rfl, ?_⟩) ?_ ?_
    rotate_left
    ·intro w'
     go_simp
     with_reducible rfl
    rotate_left
    ·simp only [Act.put, List.setIfInBounds_toArray, List.set_cons_zero, List.set_cons_succ, i64_w, i32_w]
     rfl
    refine pure_ (i := 14) (N := some 38) (v := ?_) (a' := ?_) (ob 16 32767) rfl rfl (by kernel_rfl) (fun _ _ _ h => h) (Or.inl ⟨by rfl, ?_⟩) ?_ ?_
    rotate_left
    ·intro w'
     go_simp
     with_reducible rfl
    rotate_left
    ·simp only [Act.put, List.setIfInBounds_toArray, List.set_cons_zero, List.set_cons_succ, i64_w, i32_w]
     rfl
    refine pure_ (i := 15) (N := some 3) (v := ?_) (a' := ?_) (ob 16 65535) rfl rfl (by kernel_rfl) (fun _ _ _ h => h) (Or.inl ⟨by rfl, ?_⟩) ?_ ?_
    rotate_left
    ·intro w'
     go_simp
     with_reducible rfl
    rotate_left
    ·simp only [Act.put, List.setIfInBounds_toArray, List.set_cons_zero, List.set_cons_succ, i64_w, i32_w]
     rfl
    refine done_ (by kernel_rfl) ?_
    clear hHeld z0
    go_wp2_with fail
    go_round
    case measure => simp [intOf]; omega
    case rel => exact ⟨j + 1, by omega, by simp, by rw [HG.out]; rw [HE.out]; simp, HP⟩
   ·have e1 : (x.f1.toList == []) = false := beq_eq_false_iff_ne.2 q1
    have e2 : (x.f1.toList != []) = true := bne_iff_ne.2 q1
    have HE := Aside0.mk e1
    clear q1
    have n1 := Aside0.mk HP.out.drew
    have n2 := Aside0.mk (show (W3.drew).heap[gx]? = some (.cells #[.string x.f0, .string x.f1, .string x.f2, .string x.f3, .int .i64 x.f4, .int .i64 x.f5.f0, .bool x.f5.f1, .int .i64 x.f5.f2, .string x.f5.f3, .slice A9 x.f5.f4.length c9, .slice A10 x.f5.f5.length c10, .string x.f6, .slice A12 x.f7.length c12] 39 (0, 0)) from BX.out)
    replace z0 : W3.drew.cell? ad0 = _ := z0
    clear HP BX y0 y1 x1 x2
    have HP := n1
    have BX := n2
    clear n1 n2
    refine start_ (n := 16) (S := fun w' => w'.cell? ⟨w.heap.size, 0, none⟩ = some (.slice (some ad0) l0.length c0) ∧ w'.cell? ⟨gx, 1, none⟩ = some (.string x.f1) ∧ w'.cell? ⟨gx, 2, none⟩ = some (.string x.f2) ∧ w'.cell? ad0 = some (.string (rdOf ByteArray.empty l0 0))) (ds := []) #[false, false, false, false, false, false, false, false, false, false, false, false, false, false, false, false] (by kernel_rfl) rfl rfl ⟨(blk_cell HP.out.Q 0), (blk_cell BX.out 1), (blk_cell BX.out 2), z0⟩ (fun hHeld => ?_)
    generalize W3.drew = W4 at HP BX z0 hHeld ⊢
    refine pure_ (i := 0) (N := some 24) (v := ?_) (a' := ?_) (ob 16 1) rfl rfl (by kernel_rfl) (fun _ _ _ h => h) (Or.inl ⟨by rfl, ?_⟩) ?_ ?_
    rotate_left
    ·intro w'
     go_simp
     with_reducible rfl
    rotate_left
    ·simp only [Act.put, List.setIfInBounds_toArray, List.set_cons_zero, List.set_cons_succ, i64_w, i32_w]
     rfl
    refine pure_ (i := 1) (N := some 25) (v := ?_) (a' := ?_) (ob 16 3) rfl rfl (by kernel_rfl) (fun _ _ _ h => h) (Or.inl ⟨by rfl, ?_⟩) ?_ ?_
    rotate_left
    ·intro w'
     go_simp
     with_reducible rfl
    rotate_left
    ·simp only [Act.put, List.setIfInBounds_toArray, List.set_cons_zero, List.set_cons_succ, i64_w, i32_w]
     rfl
    refine pure_ (i := 2) (N := some 26) (v := ?_) (a' := ?_) (ob 16 7) rfl rfl (by kernel_rfl) (fun _ _ _ h => h) (Or.inl ⟨by rfl, ?_⟩) ?_ ?_
    rotate_left
    ·intro w'
     go_simp
     with_reducible rfl
    rotate_left
    ·simp only [Act.put, List.setIfInBounds_toArray, List.set_cons_zero, List.set_cons_succ, i64_w, i32_w]
     rfl
    refine take_ (i := 3) (N := some 27) (v := ?_) (a' := ?_) (ob 16 15) rfl rfl (by kernel_rfl) (fun _ _ _ h => h) (Or.inl ⟨by rfl, ?_⟩) hHeld ?_ ?_
    rotate_left
    ·rintro w' ⟨s0, s1, s2, s3⟩
     go_simp
     with_reducible rfl
    rotate_left
    ·simp only [Act.put, List.setIfInBounds_toArray, List.set_cons_zero, List.set_cons_succ, i64_w, i32_w]
     rfl
    refine pure_ (i := 4) (N := some 28) (v := ?_) (a' := ?_) (ob 16 31) rfl rfl (by kernel_rfl) (fun _ _ _ h => h) (Or.inl ⟨by rfl, ?_⟩) ?_ ?_
    rotate_left
    ·intro w'
     go_simp
     with_reducible rfl
    rotate_left
    ·simp only [Act.put, List.setIfInBounds_toArray, List.set_cons_zero, List.set_cons_succ, i64_w, i32_w]
     rfl
    refine pure_ (i := 5) (N := some 29) (v := ?_) (a' := ?_) (ob 16 63) rfl rfl (by kernel_rfl) (fun _ _ _ h => h) (Or.inl ⟨by rfl, ?_⟩) ?_ ?_
    rotate_left
    ·intro w'
     go_simp
     with_reducible rfl
    rotate_left
    ·simp only [Act.put, List.setIfInBounds_toArray, List.set_cons_zero, List.set_cons_succ, i64_w, i32_w]
     rfl
    refine pure_ (i := 6) (N := some 30) (v := undef) (a' := ?_) (ob 16 127) rfl rfl (by kernel_rfl) (fun _ _ _ h => h) (Or.inr ⟨by rfl, rfl⟩) ?_ ?_
    rotate_left
    ·simp only [Act.put, List.setIfInBounds_toArray, List.set_cons_zero, List.set_cons_succ, i64_w, i32_w]
     rfl
    refine pure_ (i := 7) (N := some 31) (v := undef) (a' := ?_) (ob 16 255) rfl rfl (by kernel_rfl) (fun _ _ _ h => h) (Or.inr ⟨by rfl, rfl⟩) ?_ ?_
    rotate_left
    ·simp only [Act.put, List.setIfInBounds_toArray, List.set_cons_zero, List.set_cons_succ, i64_w, i32_w]
     rfl
    refine pure_ (i := 8) (N := some 32) (v := undef) (a' := ?_) (ob 16 511) rfl rfl (by kernel_rfl) (fun _ _ _ h => h) (Or.inr ⟨by rfl, rfl⟩) ?_ ?_
    rotate_left
    ·simp only [Act.put, List.setIfInBounds_toArray, List.set_cons_zero, List.set_cons_succ, i64_w, i32_w]
     rfl
    refine pure_ (i := 9) (N := some 33) (v := undef) (a' := ?_) (ob 16 1023) rfl rfl (by kernel_rfl) (fun _ _ _ h => h) (Or.inr ⟨by rfl, rfl⟩) ?_ ?_
    rotate_left
    ·simp only [Act.put, List.setIfInBounds_toArray, List.set_cons_zero, List.set_cons_succ, i64_w, i32_w]
     rfl
    refine pure_ (i := 10) (N := some 34) (v := undef) (a' := ?_) (ob 16 2047) rfl rfl (by kernel_rfl) (fun _ _ _ h => h) (Or.inr ⟨by rfl, rfl⟩) ?_ ?_
    rotate_left
    ·simp only [Act.put, List.setIfInBounds_toArray, List.set_cons_zero, List.set_cons_succ, i64_w, i32_w]
     rfl
    refine pure_ (i := 11) (N := some 35) (v := undef) (a' := ?_) (ob 16 4095) rfl rfl (by kernel_rfl) (fun _ _ _ h => h) (Or.inr ⟨by rfl, rfl⟩) ?_ ?_
    rotate_left
    ·simp only [Act.put, List.setIfInBounds_toArray, List.set_cons_zero, List.set_cons_succ, i64_w, i32_w]
     rfl
    refine pure_ (i := 12) (N := some 36) (v := undef) (a' := ?_) (ob 16 8191) rfl rfl (by kernel_rfl) (fun _ _ _ h => h) (Or.inr ⟨by rfl, rfl⟩) ?_ ?_
    rotate_left
    ·simp only [Act.put, List.setIfInBounds_toArray, List.set_cons_zero, List.set_cons_succ, i64_w, i32_w]
     rfl
    refine pure_ (i := 13) (N := some 37) (v := ?_) (a' := ?_) (ob 16 16383) rfl rfl (by kernel_rfl) (fun _ _ _ h => h) (Or.inl ⟨by rfl, ?_⟩) ?_ ?_
    rotate_left
    ·intro w'
     go_simp
     with_reducible rfl
    rotate_left
    ·simp only [Act.put, List.setIfInBounds_toArray, List.set_cons_zero, List.set_cons_succ, i64_w, i32_w]
     rfl
    refine pure_ (i := 14) (N := some 38) (v := ?_) (a' := ?_) (ob 16 32767) rfl rfl (by kernel_rfl) (fun _ _ _ h => h) (Or.inl ⟨by rfl, ?_⟩) ?_ ?_
    rotate_left
    ·intro w'
     go_simp
     with_reducible rfl
    rotate_left
    ·simp only [Act.put, List.setIfInBounds_toArray, List.set_cons_zero, List.set_cons_succ, i64_w, i32_w]
     rfl
    refine pure_ (i := 15) (N := some 3) (v := ?_) (a' := ?_) (ob 16 65535) rfl rfl (by kernel_rfl) (fun _ _ _ h => h) (Or.inl ⟨by rfl, ?_⟩) ?_ ?_
    rotate_left
    ·intro w'
     go_simp
     with_reducible rfl
    rotate_left
    ·simp only [Act.put, List.setIfInBounds_toArray, List.set_cons_zero, List.set_cons_succ, i64_w, i32_w]
     rfl
    refine done_ (by kernel_rfl) ?_
    clear hHeld z0
    go_wp2_with fail
    go_round
    case measure => simp [intOf]; omega
    case rel => exact ⟨j + 1, by omega, by simp, by rw [HG.out]; rw [HE.out]; simp, HP⟩
  ·obtain rfl : j = l1.length := by omega
   have hlt' : ¬ ((l1.length : Int) < (l1.length : Int)) := by omega
   have H := HT.out
   clear HT
   generalize cs_root l0 l1 l1.length = b3 at *
   cases b3
   case false =>
    cases H
    go_wp2_with fail
    go_ret
    exact ⟨rfl, HP.out.B⟩
   replace H : cs_go k l0 l1 (sec l1 l1.length) l1.length 0 [] [] = some r := H
   have HGO := Aside0.mk H
   clear H
   generalize hsc : sec l1 l1.length = sc at *
   have HSC := Aside0.mk hsc
   clear hsc
   go_upto_region 13 with (fail)
   have n1 := Aside0.mk (show FkAt w (.slice (some ad0) l0.length c0) (.slice A1 l1.length c1) sc none none none wr.drew from ⟨HP.out.drew, (fun _ e => by cases e), (fun _ e => by cases e), (fun _ e => by cases e), (fun _ _ e => by cases e), (fun _ _ e => by cases e), (fun _ _ e => by cases e)⟩)
   clear HP
   have HP := n1
   clear n1
   refine start_ (n := 8) (S := fun w' => w'.cell? ⟨w.heap.size, 0, none⟩ = some (.slice (some ad0) l0.length c0) ∧ w'.cell? ⟨w.heap.size, 1, none⟩ = some (.slice A1 l1.length c1)) (ds := [6]) #[false, false, false, false, false, false, false, false] (by kernel_rfl) rfl rfl ⟨(blk_cell HP.out.P.Q 0), (blk_cell HP.out.P.Q 1)⟩ (fun hHeld => ?_)
   generalize wr.drew = V0 at HP hHeld ⊢
   refine take_ (i := 0) (N := some 42) (v := ?_) (a' := ?_) (ob 8 1) rfl rfl (by kernel_rfl) (fun _ _ _ h => h) (Or.inl ⟨by rfl, ?_⟩) hHeld ?_ ?_
   rotate_left
   ·rintro w' ⟨s0, s1⟩
    go_simp
    with_reducible rfl
   rotate_left
   ·simp only [Act.put, List.setIfInBounds_toArray, List.set_cons_zero, List.set_cons_succ, i64_w, i32_w]
    rfl
   refine take_ (i := 1) (N := some 43) (v := ?_) (a' := ?_) (ob 8 3) rfl rfl (by kernel_rfl) (fun _ _ _ h => h) (Or.inl ⟨by rfl, ?_⟩) hHeld ?_ ?_
   rotate_left
   ·rintro w' ⟨s0, s1⟩
    go_simp
    with_reducible rfl
   rotate_left
   ·simp only [Act.put, List.setIfInBounds_toArray, List.set_cons_zero, List.set_cons_succ, i64_w, i32_w]
    rfl
   refine join_ (σ := Nat × Nat × Nat) 3 (ob 8 31) (fun s => [(44, .map (some s.1)), (45, .map (some s.2.1)), (46, .map (some s.2.2))]) (fun s w' => FkAt w (.slice (some ad0) l0.length c0) (.slice A1 l1.length c1) sc (some s.1) (some s.2.1) (some s.2.2) w') ?_ ?_
   rotate_left
   ·intro hCont
    refine three_ (i := 2) (j := 3) (k := 4) (Ni := some 44) (Nj := some 45) (Nk := some 46) (ob 8 7) (ob 8 11) (ob 8 19) rfl rfl rfl rfl rfl rfl (by kernel_rfl) (by decide) (by decide) (by decide) (fun K hK => ?_) (fun K hK => ?_) (fun K hK => ?_)
    ·skip
     refine goes_ Tryd.func11 (by kernel_rfl) rfl #[.agg #[.slice (some ad0) l0.length c0, .slice A1 l1.length c1]] (by rfl) rfl rfl (by simp only [List.map_toArray, List.map_cons, List.map_nil]; rfl) ?_
     with_reducible refine (sec_calls (some ad0) c0 l0 A1 c1 l1 _ ?side1 (by omega) (cs_sized.at HZ.out)).mono ?_
     (case side1 => exact Kd.C_below HR1.out HP.out.P.B)
     rintro e_ V1 ⟨b1, rfl, hn, hm, hb⟩
     refine ⟨_, rfl, ?_⟩
     rw [HSC.out] at hm
     have n1 := Aside0.mk (HP.out.one hb hn hm)
     clear HP hb hn hm
     have HP := n1
     clear n1
     refine hK.out _ _ ⟨(blk_cell HP.out.P.Q 0), (blk_cell HP.out.P.Q 1)⟩ (fun hHeld => ?_)
     clear hK K
     refine norm_ (a' := ?_) ?_ ?_
     rotate_left
     ·show Act.put _ (some 44) _ = _
      simp only [Act.put, List.setIfInBounds_toArray, List.set_cons_zero, List.set_cons_succ, i64_w, i32_w]
      rfl
     refine two_ (i := 3) (j := 4) (Ni := some 45) (Nj := some 46) (ob 8 15) (ob 8 23) rfl rfl rfl rfl (by kernel_rfl) (by decide) (by decide) (fun K hK => ?_) (fun K hK => ?_)
     ·skip
      refine value_ (w1 := ?_) (v := ?_) (by rfl) rfl ?_ ?_
      rotate_left 2
      ·go_simp
       constructor
       ·rfl
       ·rfl
      have n1 := Aside0.mk HP.out.two
      clear HP
      have HP := n1
      clear n1
      generalize V1.alloc (.map #[] 0) = V2 at HP ⊢
      generalize V1.heap.size = b2 at HP ⊢
      refine hK.out _ _ ⟨(blk_cell HP.out.P.Q 0), (blk_cell HP.out.P.Q 1)⟩ (fun hHeld => ?_)
      clear hK K
      refine norm_ (a' := ?_) ?_ ?_
      rotate_left
      ·show Act.put _ (some 45) _ = _
       simp only [Act.put, List.setIfInBounds_toArray, List.set_cons_zero, List.set_cons_succ, i64_w, i32_w]
       rfl
      refine one_ (i := 4) (N := some 46) (ob 8 31) rfl rfl (by kernel_rfl) (by decide) (fun K hK => ?_)
      refine value_ (w1 := ?_) (v := ?_) (by rfl) rfl ?_ ?_
      rotate_left 2
      ·go_simp
       constructor
       ·rfl
       ·rfl
      have n1 := Aside0.mk HP.out.three
      clear HP
      have HP := n1
      clear n1
      generalize V2.alloc (.map #[] 0) = V3 at HP ⊢
      generalize V2.heap.size = b3 at HP ⊢
      refine hK.out _ _ ⟨(blk_cell HP.out.P.Q 0), (blk_cell HP.out.P.Q 1)⟩ (fun hHeld => ?_)
      clear hK K
      refine norm_ (a' := ?_) ?_ ?_
      rotate_left
      ·show Act.put _ (some 46) _ = _
       simp only [Act.put, List.setIfInBounds_toArray, List.set_cons_zero, List.set_cons_succ, i64_w, i32_w]
       rfl
      exact norm_ (by simp only [putAll, Act.put, List.setIfInBounds_toArray, List.set_cons_zero, List.set_cons_succ]) (hCont (b1, b2, b3) _ HP.out)
     ·skip
      refine value_ (w1 := ?_) (v := ?_) (by rfl) rfl ?_ ?_
      rotate_left 2
      ·go_simp
       constructor
       ·rfl
       ·rfl
      have n1 := Aside0.mk HP.out.three
      clear HP
      have HP := n1
      clear n1
      generalize V1.alloc (.map #[] 0) = V2 at HP ⊢
      generalize V1.heap.size = b3 at HP ⊢
      refine hK.out _ _ ⟨(blk_cell HP.out.P.Q 0), (blk_cell HP.out.P.Q 1)⟩ (fun hHeld => ?_)
      clear hK K
      refine norm_ (a' := ?_) ?_ ?_
      rotate_left
      ·show Act.put _ (some 46) _ = _
       simp only [Act.put, List.setIfInBounds_toArray, List.set_cons_zero, List.set_cons_succ, i64_w, i32_w]
       rfl
      refine one_ (i := 3) (N := some 45) (ob 8 31) rfl rfl (by kernel_rfl) (by decide) (fun K hK => ?_)
      refine value_ (w1 := ?_) (v := ?_) (by rfl) rfl ?_ ?_
      rotate_left 2
      ·go_simp
       constructor
       ·rfl
       ·rfl
      have n1 := Aside0.mk HP.out.two
      clear HP
      have HP := n1
      clear n1
      generalize V2.alloc (.map #[] 0) = V3 at HP ⊢
      generalize V2.heap.size = b2 at HP ⊢
      refine hK.out _ _ ⟨(blk_cell HP.out.P.Q 0), (blk_cell HP.out.P.Q 1)⟩ (fun hHeld => ?_)
      clear hK K
      refine norm_ (a' := ?_) ?_ ?_
      rotate_left
      ·show Act.put _ (some 45) _ = _
       simp only [Act.put, List.setIfInBounds_toArray, List.set_cons_zero, List.set_cons_succ, i64_w, i32_w]
       rfl
      exact norm_ (by simp only [putAll, Act.put, List.setIfInBounds_toArray, List.set_cons_zero, List.set_cons_succ]) (hCont (b1, b2, b3) _ HP.out)
    ·skip
     refine value_ (w1 := ?_) (v := ?_) (by rfl) rfl ?_ ?_
     rotate_left 2
     ·go_simp
      constructor
      ·rfl
      ·rfl
     have n1 := Aside0.mk HP.out.two
     clear HP
     have HP := n1
     clear n1
     generalize V0.alloc (.map #[] 0) = V1 at HP ⊢
     generalize V0.heap.size = b2 at HP ⊢
     refine hK.out _ _ ⟨(blk_cell HP.out.P.Q 0), (blk_cell HP.out.P.Q 1)⟩ (fun hHeld => ?_)
     clear hK K
     refine norm_ (a' := ?_) ?_ ?_
     rotate_left
     ·show Act.put _ (some 45) _ = _
      simp only [Act.put, List.setIfInBounds_toArray, List.set_cons_zero, List.set_cons_succ, i64_w, i32_w]
      rfl
     refine two_ (i := 2) (j := 4) (Ni := some 44) (Nj := some 46) (ob 8 15) (ob 8 27) rfl rfl rfl rfl (by kernel_rfl) (by decide) (by decide) (fun K hK => ?_) (fun K hK => ?_)
     ·skip
      refine goes_ Tryd.func11 (by kernel_rfl) rfl #[.agg #[.slice (some ad0) l0.length c0, .slice A1 l1.length c1]] (by rfl) rfl rfl (by simp only [List.map_toArray, List.map_cons, List.map_nil]; rfl) ?_
      with_reducible refine (sec_calls (some ad0) c0 l0 A1 c1 l1 _ ?side1 (by omega) (cs_sized.at HZ.out)).mono ?_
      (case side1 => exact Kd.C_below HR1.out HP.out.P.B)
      rintro e_ V2 ⟨b1, rfl, hn, hm, hb⟩
      refine ⟨_, rfl, ?_⟩
      rw [HSC.out] at hm
      have n1 := Aside0.mk (HP.out.one hb hn hm)
      clear HP hb hn hm
      have HP := n1
      clear n1
      refine hK.out _ _ ⟨(blk_cell HP.out.P.Q 0), (blk_cell HP.out.P.Q 1)⟩ (fun hHeld => ?_)
      clear hK K
      refine norm_ (a' := ?_) ?_ ?_
      rotate_left
      ·show Act.put _ (some 44) _ = _
       simp only [Act.put, List.setIfInBounds_toArray, List.set_cons_zero, List.set_cons_succ, i64_w, i32_w]
       rfl
      refine one_ (i := 4) (N := some 46) (ob 8 31) rfl rfl (by kernel_rfl) (by decide) (fun K hK => ?_)
      refine value_ (w1 := ?_) (v := ?_) (by rfl) rfl ?_ ?_
      rotate_left 2
      ·go_simp
       constructor
       ·rfl
       ·rfl
      have n1 := Aside0.mk HP.out.three
      clear HP
      have HP := n1
      clear n1
      generalize V2.alloc (.map #[] 0) = V3 at HP ⊢
      generalize V2.heap.size = b3 at HP ⊢
      refine hK.out _ _ ⟨(blk_cell HP.out.P.Q 0), (blk_cell HP.out.P.Q 1)⟩ (fun hHeld => ?_)
      clear hK K
      refine norm_ (a' := ?_) ?_ ?_
      rotate_left
      ·show Act.put _ (some 46) _ = _
       simp only [Act.put, List.setIfInBounds_toArray, List.set_cons_zero, List.set_cons_succ, i64_w, i32_w]
       rfl
      exact norm_ (by simp only [putAll, Act.put, List.setIfInBounds_toArray, List.set_cons_zero, List.set_cons_succ]) (hCont (b1, b2, b3) _ HP.out)
     ·skip
      refine value_ (w1 := ?_) (v := ?_) (by rfl) rfl ?_ ?_
      rotate_left 2
      ·go_simp
       constructor
       ·rfl
       ·rfl
      have n1 := Aside0.mk HP.out.three
      clear HP
      have HP := n1
      clear n1
      generalize V1.alloc (.map #[] 0) = V2 at HP ⊢
      generalize V1.heap.size = b3 at HP ⊢
      refine hK.out _ _ ⟨(blk_cell HP.out.P.Q 0), (blk_cell HP.out.P.Q 1)⟩ (fun hHeld => ?_)
      clear hK K
      refine norm_ (a' := ?_) ?_ ?_
      rotate_left
      ·show Act.put _ (some 46) _ = _
       simp only [Act.put, List.setIfInBounds_toArray, List.set_cons_zero, List.set_cons_succ, i64_w, i32_w]
       rfl
      refine one_ (i := 2) (N := some 44) (ob 8 31) rfl rfl (by kernel_rfl) (by decide) (fun K hK => ?_)
      refine goes_ Tryd.func11 (by kernel_rfl) rfl #[.agg #[.slice (some ad0) l0.length c0, .slice A1 l1.length c1]] (by rfl) rfl rfl (by simp only [List.map_toArray, List.map_cons, List.map_nil]; rfl) ?_
      with_reducible refine (sec_calls (some ad0) c0 l0 A1 c1 l1 _ ?side1 (by omega) (cs_sized.at HZ.out)).mono ?_
      (case side1 => exact Kd.C_below HR1.out HP.out.P.B)
      rintro e_ V3 ⟨b1, rfl, hn, hm, hb⟩
      refine ⟨_, rfl, ?_⟩
      rw [HSC.out] at hm
      have n1 := Aside0.mk (HP.out.one hb hn hm)
      clear HP hb hn hm
      have HP := n1
      clear n1
      refine hK.out _ _ ⟨(blk_cell HP.out.P.Q 0), (blk_cell HP.out.P.Q 1)⟩ (fun hHeld => ?_)
      clear hK K
      refine norm_ (a' := ?_) ?_ ?_
      rotate_left
      ·show Act.put _ (some 44) _ = _
       simp only [Act.put, List.setIfInBounds_toArray, List.set_cons_zero, List.set_cons_succ, i64_w, i32_w]
       rfl
      exact norm_ (by simp only [putAll, Act.put, List.setIfInBounds_toArray, List.set_cons_zero, List.set_cons_succ]) (hCont (b1, b2, b3) _ HP.out)
    ·skip
     refine value_ (w1 := ?_) (v := ?_) (by rfl) rfl ?_ ?_
     rotate_left 2
     ·go_simp
      constructor
      ·rfl
      ·rfl
     have n1 := Aside0.mk HP.out.three
     clear HP
     have HP := n1
     clear n1
     generalize V0.alloc (.map #[] 0) = V1 at HP ⊢
     generalize V0.heap.size = b3 at HP ⊢
     refine hK.out _ _ ⟨(blk_cell HP.out.P.Q 0), (blk_cell HP.out.P.Q 1)⟩ (fun hHeld => ?_)
     clear hK K
     refine norm_ (a' := ?_) ?_ ?_
     rotate_left
     ·show Act.put _ (some 46) _ = _
      simp only [Act.put, List.setIfInBounds_toArray, List.set_cons_zero, List.set_cons_succ, i64_w, i32_w]
      rfl
     refine two_ (i := 2) (j := 3) (Ni := some 44) (Nj := some 45) (ob 8 23) (ob 8 27) rfl rfl rfl rfl (by kernel_rfl) (by decide) (by decide) (fun K hK => ?_) (fun K hK => ?_)
     ·skip
      refine goes_ Tryd.func11 (by kernel_rfl) rfl #[.agg #[.slice (some ad0) l0.length c0, .slice A1 l1.length c1]] (by rfl) rfl rfl (by simp only [List.map_toArray, List.map_cons, List.map_nil]; rfl) ?_
      with_reducible refine (sec_calls (some ad0) c0 l0 A1 c1 l1 _ ?side1 (by omega) (cs_sized.at HZ.out)).mono ?_
      (case side1 => exact Kd.C_below HR1.out HP.out.P.B)
      rintro e_ V2 ⟨b1, rfl, hn, hm, hb⟩
      refine ⟨_, rfl, ?_⟩
      rw [HSC.out] at hm
      have n1 := Aside0.mk (HP.out.one hb hn hm)
      clear HP hb hn hm
      have HP := n1
      clear n1
      refine hK.out _ _ ⟨(blk_cell HP.out.P.Q 0), (blk_cell HP.out.P.Q 1)⟩ (fun hHeld => ?_)
      clear hK K
      refine norm_ (a' := ?_) ?_ ?_
      rotate_left
      ·show Act.put _ (some 44) _ = _
       simp only [Act.put, List.setIfInBounds_toArray, List.set_cons_zero, List.set_cons_succ, i64_w, i32_w]
       rfl
      refine one_ (i := 3) (N := some 45) (ob 8 31) rfl rfl (by kernel_rfl) (by decide) (fun K hK => ?_)
      refine value_ (w1 := ?_) (v := ?_) (by rfl) rfl ?_ ?_
      rotate_left 2
      ·go_simp
       constructor
       ·rfl
       ·rfl
      have n1 := Aside0.mk HP.out.two
      clear HP
      have HP := n1
      clear n1
      generalize V2.alloc (.map #[] 0) = V3 at HP ⊢
      generalize V2.heap.size = b2 at HP ⊢
      refine hK.out _ _ ⟨(blk_cell HP.out.P.Q 0), (blk_cell HP.out.P.Q 1)⟩ (fun hHeld => ?_)
      clear hK K
      refine norm_ (a' := ?_) ?_ ?_
      rotate_left
      ·show Act.put _ (some 45) _ = _
       simp only [Act.put, List.setIfInBounds_toArray, List.set_cons_zero, List.set_cons_succ, i64_w, i32_w]
       rfl
      exact norm_ (by simp only [putAll, Act.put, List.setIfInBounds_toArray, List.set_cons_zero, List.set_cons_succ]) (hCont (b1, b2, b3) _ HP.out)
     ·skip
      refine value_ (w1 := ?_) (v := ?_) (by rfl) rfl ?_ ?_
      rotate_left 2
      ·go_simp
       constructor
       ·rfl
       ·rfl
      have n1 := Aside0.mk HP.out.two
      clear HP
      have HP := n1
      clear n1
      generalize V1.alloc (.map #[] 0) = V2 at HP ⊢
      generalize V1.heap.size = b2 at HP ⊢
      refine hK.out _ _ ⟨(blk_cell HP.out.P.Q 0), (blk_cell HP.out.P.Q 1)⟩ (fun hHeld => ?_)
      clear hK K
      refine norm_ (a' := ?_) ?_ ?_
      rotate_left
      ·show Act.put _ (some 45) _ = _
       simp only [Act.put, List.setIfInBounds_toArray, List.set_cons_zero, List.set_cons_succ, i64_w, i32_w]
       rfl
      refine one_ (i := 2) (N := some 44) (ob 8 31) rfl rfl (by kernel_rfl) (by decide) (fun K hK => ?_)
      refine goes_ Tryd.func11 (by kernel_rfl) rfl #[.agg #[.slice (some ad0) l0.length c0, .slice A1 l1.length c1]] (by rfl) rfl rfl (by simp only [List.map_toArray, List.map_cons, List.map_nil]; rfl) ?_
      with_reducible refine (sec_calls (some ad0) c0 l0 A1 c1 l1 _ ?side1 (by omega) (cs_sized.at HZ.out)).mono ?_
      (case side1 => exact Kd.C_below HR1.out HP.out.P.B)
      rintro e_ V3 ⟨b1, rfl, hn, hm, hb⟩
      refine ⟨_, rfl, ?_⟩
      rw [HSC.out] at hm
      have n1 := Aside0.mk (HP.out.one hb hn hm)
      clear HP hb hn hm
      have HP := n1
      clear n1
      refine hK.out _ _ ⟨(blk_cell HP.out.P.Q 0), (blk_cell HP.out.P.Q 1)⟩ (fun hHeld => ?_)
      clear hK K
      refine norm_ (a' := ?_) ?_ ?_
      rotate_left
      ·show Act.put _ (some 44) _ = _
       simp only [Act.put, List.setIfInBounds_toArray, List.set_cons_zero, List.set_cons_succ, i64_w, i32_w]
       rfl
      exact norm_ (by simp only [putAll, Act.put, List.setIfInBounds_toArray, List.set_cons_zero, List.set_cons_succ]) (hCont (b1, b2, b3) _ HP.out)
   clear HP
   rintro ⟨b1, b2, b3⟩ W8 hp
   replace hp : FkAt w (.slice (some ad0) l0.length c0) (.slice A1 l1.length c1) sc (some b1) (some b2) (some b3) W8 := hp
   have HP := Aside0.mk hp
   clear hp
   have hHeld : W8.cell? ⟨w.heap.size, 0, none⟩ = some (.slice (some ad0) l0.length c0) ∧ W8.cell? ⟨w.heap.size, 1, none⟩ = some (.slice A1 l1.length c1) := ⟨(blk_cell HP.out.P.Q 0), (blk_cell HP.out.P.Q 1)⟩
   refine norm_ (a' := ?_) ?_ ?_
   rotate_left
   ·simp only [putAll, Act.put, List.setIfInBounds_toArray, List.set_cons_zero, List.set_cons_succ]
    rfl
   refine pure_ (i := 5) (N := some 47) (v := ?_) (a' := ?_) (ob 8 63) rfl rfl (by kernel_rfl) (fun _ _ _ h => h) (Or.inl ⟨by rfl, ?_⟩) ?_ ?_
   rotate_left
   ·intro w'
    go_simp
    with_reducible rfl
   rotate_left
   ·simp only [Act.put, List.setIfInBounds_toArray, List.set_cons_zero, List.set_cons_succ, i64_w, i32_w]
    rfl
   refine last_ (i := 6) (N := some 48) (ob 8 127) rfl rfl (by kernel_rfl) (by decide) (fun K hK => ?_)
   refine value_ (w1 := ?_) (v := ?_) (by rfl) rfl ?_ ?_
   rotate_left 2
   ·go_simp
    constructor
    ·rfl
    ·rfl
   have HK := Aside0.mk HP.out.ck
   have HP1 := Aside0.mk (HP.out.P.alloc (.cells #[.slice (some ad0) l0.length c0, .slice A1 l1.length c1, .map (some b1), .map (some b2), .map (some b3)] 48))
   clear HP
   generalize W8.alloc (.cells #[.slice (some ad0) l0.length c0, .slice A1 l1.length c1, .map (some b1), .map (some b2), .map (some b3)] 48) = W9 at HK HP1 ⊢
   generalize W8.heap.size = gk at HK ⊢
   refine hK.out _ _ ?_
   clear hK K
   refine norm_ (a' := ?_) ?_ ?_
   rotate_left
   ·show Act.put _ (some 48) _ = _
    simp only [Act.put, List.setIfInBounds_toArray, List.set_cons_zero, List.set_cons_succ, i64_w, i32_w]
    rfl
   refine pure_ (i := 7) (N := some 6) (v := ?_) (a' := ?_) (ob 8 255) rfl rfl (by kernel_rfl) (fun _ _ _ h => h) (Or.inl ⟨by rfl, ?_⟩) ?_ ?_
   rotate_left
   ·intro w'
    go_simp
    with_reducible rfl
   rotate_left
   ·simp only [Act.put, List.setIfInBounds_toArray, List.set_cons_zero, List.set_cons_succ, i64_w, i32_w]
    rfl
   refine done_ (by kernel_rfl) ?_
   try clear hHeld
   have y1 : W9.cell? ⟨w.heap.size, 1, none⟩ = some (.slice A1 l1.length c1) := (blk_cell HP1.out.Q 1).trans rfl
   go_wp2_with (fail)
   clear y1 HP1
   have HK0 := HK
   clear HK
   go_loopw [52] (fun i wr => ∃ (m : Nat) (ad : PgA) (ks : PgK), m ≤ l1.length ∧ i = .int .i64 m ∧ Aside0 (cs_go k l0 l1 sc (l1.length - m) m ad ks = some r) ∧ Aside0 (CkAt w gk b1 b2 b3 (.slice (some ad0) l0.length c0) (.slice A1 l1.length c1) sc ad ks wr)) (fun i _ => l1.length - (intOf i).toNat)
   case atStart => exact ⟨0, [], [], Nat.zero_le _, rfl, HGO, HK0⟩
   case round =>
    clear HK0 HGO
    obtain ⟨m, ad, ks, hm, rfl, HGO, HK⟩ := hrel
    by_cases hlt : m < l1.length
    ·have hlt' : (m : Int) < (l1.length : Int) := by omega
     have H := HGO.out
     clear HGO
     obtain ⟨q, hq⟩ : ∃ q, l1.length - m = q + 1 := ⟨l1.length - m - 1, by omega⟩
     rw [hq] at H
     obtain ⟨⟨e1, ad', ks'⟩, hpg, H2⟩ := Option.bind_eq_some_iff.1 H
     have HPG := Aside0.mk hpg
     have HQ := Aside0.mk hq
     replace H2 : (if e1 = 0 then cs_go k l0 l1 sc q (m + 1) ad' ks' else some e1) = some r := H2
     clear H hpg hq
     by_cases he : e1 = 0
     ·obtain rfl := he
      rw [if_pos rfl] at H2
      have HG2 := Aside0.mk H2
      clear H2
      go_wp2_with (go_at_call 12; (with_reducible refine (pg_calls k w (some ad0) c0 l0 A1 c1 l1 HR0.out HC0.out HR1.out (by omega) gk b1 b2 b3 sc ad ks m hlt 0 ad' ks' _ HK.out HPG.out).mono ?_); rintro e W10 ⟨rfl, hck⟩; have HK2 := Aside0.mk hck; clear hck HK)
      go_round
      case measure => simp [intOf]; omega
      case rel => exact ⟨m + 1, ad', ks', by omega, by simp, ⟨by have e := HQ.out; rw [show l1.length - (m + 1) = q by omega]; exact HG2.out⟩, HK2⟩
     ·rw [if_neg he] at H2
      cases H2
      have e3 : (r != 0) = true := bne_iff_ne.2 he
      have e4 : (r == 0) = false := beq_eq_false_iff_ne.2 he
      clear he
      go_wp2_with (go_at_call 12; (with_reducible refine (pg_calls k w (some ad0) c0 l0 A1 c1 l1 HR0.out HC0.out HR1.out (by omega) gk b1 b2 b3 sc ad ks m hlt r ad' ks' _ HK.out HPG.out).mono ?_); rintro e W10 ⟨rfl, hck⟩; have HK2 := Aside0.mk hck; clear hck HK)
      go_ret
      exact ⟨rfl, HK2.out.B⟩
    ·obtain rfl : m = l1.length := by omega
     have hlt' : ¬ ((l1.length : Int) < (l1.length : Int)) := by omega
     have H := HGO.out
     rw [Nat.sub_self] at H
     cases H
     clear HGO
     go_wp2_with fail
     go_ret
     exact ⟨rfl, HK.out.B⟩
end Go.Proofs.YtcgmieeojngceaaDoor.PTreeTranslates
