/- For TopServed: Moved and redirected without redirects, walked. No condition. -/
import Derived.Test.YtbldjamcnohfjaaDoorSvA
import Derived.Test.YtbldjamcnohfjaaDoorSvD
import Derived.Test.YtbldjamcnohfjaaDoorPTopServedx2
namespace Go.Proofs.YtbldjamcnohfjaaDoor.PTopServed
open Go.RowKit Go.Proofs.YtbldjamcnohfjaaDoorW.PrintWords Go.Proofs.YtbldjamcnohfjaaDoorW.PrintLast Go.Proofs.YtbldjamcnohfjaaDoorW.PrintMore
set_option linter.unusedVariables false
set_option linter.unusedSimpArgs false
/-- what is known of the outputs' addresses: where each leads, and its key -/
structure Ads (k : Nat) (l : List S30) (ad : Nat → ByteArray) (tr : Nat → ByteArray) : Prop where
  a : ∀ j : Nat, j < l.length → ship_Address.f k (rd_T30 l j).f0 = some (ad j, 0)
  t : ∀ j : Nat, j < l.length → strings_TrimSuffix.f (ad j) (⟨#[47]⟩ : ByteArray) = some (tr j)
  z : ∀ j : Nat, j < l.length → (tr j).size ≤ maxLen
def SomeMap (w : World) (b : Nat) (W : World) : Prop := ∃ m, SmAt w b m W
set_option maxRecDepth 100000 in
theorem moved_err (k : Nat) (A : Option Addr) (c : Nat) (l : List S30) (w : World) (e0 : Int) (hr : Kd.C k30 w A l.length l) (hc : l.length ≤ c) (h : ship_CheckOuts.f k l = some e0) (h0 : e0 ≠ 0) :
    Calls Tryd.prog 33 #[.slice A l.length c, .slice none 0 0] w fun e w' => e = .returned (.tuple #[.slice none 0 0, .slice none 0 0, .int .i64 e0]) ∧ Below w.heap.size w w' := by
  have HR := Aside0.mk hr
  have HC := Aside0.mk hc
  have H := Aside0.mk h
  have e1 : (e0 != 0) = true := bne_iff_ne.2 h0
  have e2 : (e0 == 0) = false := beq_eq_false_iff_ne.2 h0
  clear hr hc h h0
  go_enter Tryd.func33, Tryd.ntmps33
  go_wp2_with fail
  go_step3
  go_wp2_with (go_at_call 12; refine (ship_CheckOuts.calls k A c l e0 w ?s1 HC.out H.out).mono ?_; (case s1 => exact HR.out); rintro e W1 ⟨rfl, hb⟩; have HB := Aside0.mk hb; clear hb)
  rw [Exit.noGoto_ret]
  exact bodyPost_ret (v := .tuple #[.slice none 0 0, .slice none 0 0, .int .i64 e0]) (by simp [results, Tryd.results33, go_sem]) rfl ⟨rfl, HB.out⟩
set_option maxHeartbeats 3000000 in
set_option maxRecDepth 100000 in
theorem moved_nil (k : Nat) (A : Option Addr) (c : Nat) (l : List S30) (w : World) (ad tr : Nat → ByteArray) (hr : Kd.C k30 w A l.length l) (hc : l.length ≤ c) (hlen : l.length ≤ 1000000000000) (h : ship_CheckOuts.f k l = some 0) (ha : Ads k l ad tr) :
    Calls Tryd.prog 33 #[.slice A l.length c, .slice none 0 0] w fun e w' => e = .returned (.tuple #[.slice none 0 0, .slice none 0 0, .int .i64 0]) ∧ Below w.heap.size w w' := by
  have HR := Aside0.mk hr
  have HC := Aside0.mk hc
  have H := Aside0.mk h
  have HA := Aside0.mk ha
  clear hr hc h ha
  have hu30 := Tryd.underlying30
  have hmk := @run_makeMap Tryd.prog
  go_enter Tryd.func33, Tryd.ntmps33
  go_wp2_with fail
  go_step3
  go_wp2_with (go_at_call 12; refine (ship_CheckOuts.calls k A c l 0 w ?s1 HC.out H.out).mono ?_; (case s1 => exact HR.out); rintro e W1 ⟨rfl, hb⟩; have HB := Aside0.mk hb; clear hb)
  refine wp_loop_rounds 1 ?_
  rw [rounds_succ]
  go_wp2_with fail
  have HS0 := Aside0.mk (show SomeMap w (W1.heap.size + 1) ((W1.alloc (.map #[] 0)).alloc (.map #[] 0)) from ⟨[], by
    have h := SmAt.new (below_alloc HB.out (.map #[] 0))
    rw [show (W1.alloc (.map #[] 0)).heap.size = W1.heap.size + 1 by simp] at h
    exact h⟩)
  generalize (W1.alloc (.map #[] 0)).alloc (.map #[] 0) = w0 at HS0 ⊢
  generalize W1.heap.size + 1 = b at HS0 ⊢
  go_loopw [91] (fun i wr => ∃ j : Nat, j ≤ l.length ∧ i = .int .i64 j ∧ Aside0 (SomeMap w b wr)) (fun i _ => l.length - (intOf i).toNat)
  case atStart => exact ⟨0, Nat.zero_le _, rfl, HS0⟩
  case round =>
    clear HS0 HB
    obtain ⟨j, hj, rfl, HS1⟩ := hrel
    obtain ⟨m, hm⟩ := HS1.out
    have HS := Aside0.mk hm
    clear hm HS1
    by_cases hlt : j < l.length
    · obtain ⟨pa, rfl, x0, x1⟩ := at_T30 (Kd.C_below HR.out HS.out.B) j (by omega) (by omega)
      rw [Int.toNat_natCast] at x0 x1
      have A1 := Aside0.mk (HA.out.a j hlt)
      have A2 := Aside0.mk (HA.out.t j hlt)
      have A3 := Aside0.mk (HA.out.z j hlt)
      generalize rd_T30 l j = x at *
      generalize ad j = aj at *
      generalize tr j = tj at *
      have hlt' : (j : Int) < (l.length : Int) := by omega
      obtain ⟨q, hq⟩ := tm_q1 tj A3.out
      have HQ := Aside0.mk hq
      clear hq
      go_wp2_with (first | (go_at_call 7; refine (ship_Address.calls k x.f0 aj 0 _ A1.out).mono ?_; rintro e W2 ⟨rfl, hb⟩; have n1 := Aside0.mk ((HS.out.alloc _).below hb); clear HS hb; have HS := n1; clear n1) | (go_at_call 17; refine (strings_TrimSuffix.calls aj _ tj _ A2.out).mono ?_; rintro e w' ⟨rfl, nd, rfl⟩; have n1 := Aside0.mk (HS.out.drewN nd); clear HS; have HS := n1; clear n1) | (at_mapUpdate; refine Mp.wp_put (V := E1) rfl _ _ _ rfl tm_k1 Tryd.underlying43 E1_inj rfl HS.out.M tj aj q rfl rfl HQ.out ?_; intro w2 hm2 hg2; have HS2 := Aside0.mk (HS.out.put hm2 hg2); clear hm2 hg2))
      go_round
      case measure => simp [intOf]; omega
      case rel => exact ⟨j + 1, by omega, by simp, ⟨_, HS2.out⟩⟩
    · obtain rfl : j = l.length := by omega
      have hlt' : ¬ ((l.length : Int) < (l.length : Int)) := by omega
      go_wp2_with fail
      go_step3
      go_wp2_with fail
      refine wp_loop_rounds 1 ?_
      rw [rounds_succ]
      go_wp2_with (go_at_call 44; refine (stable_nil _ _ _ _).mono ?_; rintro e W5 ⟨rfl, hb⟩; have HB5 := Aside0.mk (below_step (below_alloc HS.out.B (.cells #[.slice none 0 0] 50)) hb); have y22 : W5.cell? ⟨wr.heap.size, 0, none⟩ = some (.slice none 0 0) := (blk_cell (blk_below (blk_new wr (.cells #[.slice none 0 0] 50)) hb) 0).trans rfl; clear hb)
      rw [Exit.noGoto_ret]
      go_ret3
      exact ⟨rfl, HB5.out⟩
set_option maxRecDepth 100000 in
theorem redirected_err (k : Nat) (A : Option Addr) (c : Nat) (l : List S30) (w : World) (e0 : Int) (hr : Kd.C k30 w A l.length l) (hc : l.length ≤ c) (h : ship_CheckOuts.f k l = some e0) (h0 : e0 ≠ 0) :
    Calls Tryd.prog 19 #[.slice A l.length c, .slice none 0 0] w fun e w' => e = .returned (.tuple #[.map none, .int .i64 e0]) ∧ Below w.heap.size w w' := by
  have HC := Aside0.mk (moved_err k A c l w e0 hr hc h h0)
  have e1 : (e0 != 0) = true := bne_iff_ne.2 h0
  have e2 : (e0 == 0) = false := beq_eq_false_iff_ne.2 h0
  clear hr hc h h0
  go_enter Tryd.func19, Tryd.ntmps19
  go_wp2_with (go_at_call 33; refine HC.out.mono ?_; rintro e W1 ⟨rfl, hb⟩; have HB := Aside0.mk hb; clear hb)
  go_ret2
  exact ⟨rfl, HB.out⟩
set_option maxRecDepth 100000 in
theorem redirected_nil (k : Nat) (A : Option Addr) (c : Nat) (l : List S30) (w : World) (ad tr : Nat → ByteArray) (hr : Kd.C k30 w A l.length l) (hc : l.length ≤ c) (hlen : l.length ≤ 1000000000000) (h : ship_CheckOuts.f k l = some 0) (ha : Ads k l ad tr) :
    Calls Tryd.prog 19 #[.slice A l.length c, .slice none 0 0] w fun e w' => ∃ b, e = .returned (.tuple #[.map (some b), .int .i64 0]) ∧ SmAt w b [] w' := by
  have HC := Aside0.mk (moved_nil k A c l w ad tr hr hc hlen h ha)
  clear hr hc h ha
  have hmk := @run_makeMap Tryd.prog
  go_enter Tryd.func19, Tryd.ntmps19
  go_wp2_with (go_at_call 33; refine HC.out.mono ?_; rintro e W1 ⟨rfl, hb⟩; have HB := Aside0.mk hb; clear hb)
  refine wp_loop_rounds 1 ?_
  rw [rounds_succ]
  go_wp2_with fail
  go_ret2
  exact ⟨_, rfl, SmAt.new HB.out⟩
end Go.Proofs.YtbldjamcnohfjaaDoor.PTopServed
