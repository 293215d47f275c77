/- For TopServed: maps from strings to strings of this dump; bodies, walked. No condition. -/
import Derived.Test.YtbldjamcnohfjaaDoorMaps
import Derived.Test.YtbldjamcnohfjaaDoorPTopServedx0
import Derived.Lib.Hide
namespace Go.Proofs.YtbldjamcnohfjaaDoor.PTopServed
open Go.RowKit Go.Proofs.YtbldjamcnohfjaaDoorW.PrintWords Go.Proofs.YtbldjamcnohfjaaDoorW.PrintLast Go.Proofs.YtbldjamcnohfjaaDoorW.PrintMore
set_option linter.unusedVariables false
set_option linter.unusedSimpArgs false
abbrev E1 (s : ByteArray) : Value := .string s
theorem E1_inj : ∀ x y, E1 x = E1 y → x = y := fun x y h => by injection h
theorem tm_laid : laidOutB Tryd.prog = true := by kernel_rfl
theorem tm_k1 : Maps.Keyed Tryd.prog 9 := Maps.string_keyed Tryd.underlying9
theorem tm_q1 (s : ByteArray) (h : s.size ≤ maxLen) : ∃ q, keyOf Tryd.prog 9 (E1 s) = some q := ⟨_, Go.WideMaps.keyOf_string_mk Tryd.underlying9 h⟩
theorem tm_z9 (w : World) : (zeroValue 9).run Tryd.prog w = .ok (E1 ⟨#[]⟩) w := by kernel_rfl
abbrev SM := List (ByteArray × ByteArray)
def bd (l : List S30) : Nat → SM
  | 0 => []
  | j + 1 => ((rd_T30 l j).f0, (rd_T30 l j).f1) :: bd l j
structure SmAt (w : World) (b : Nat) (m : SM) (W : World) : Prop where
  M : Mp.Is Tryd.prog 9 E1 E1 b m W
  B : Below w.heap.size w W
  N : w.heap.size ≤ b
theorem SmAt.below {w W W1 : World} {b : Nat} {m : SM} (h : SmAt w b m W) (hb : Below W.heap.size W W1) : SmAt w b m W1 := ⟨h.M.below hb, below_step h.B hb, h.N⟩
theorem SmAt.alloc {w W : World} {b : Nat} {m : SM} (h : SmAt w b m W) (o : Obj) : SmAt w b m (W.alloc o) := h.below (below_alloc (Below.refl _ _) _)
theorem SmAt.drewN {w W : World} {b : Nat} {m : SM} (h : SmAt w b m W) (n : Nat) : SmAt w b m (W.drewN n) := h.below (pw_below_drewN (Below.refl _ _) n)
theorem SmAt.put {w W W1 : World} {b : Nat} {m m' : SM} (h : SmAt w b m W) (hm : Mp.Is Tryd.prog 9 E1 E1 b m' W1) (hg : W.grownBy W1 (some b)) : SmAt w b m' W1 := ⟨hm, h.B.trans (Mp.grown_below hg h.N (below_size h.B)), h.N⟩
theorem SmAt.new {w W : World} (hB : Below w.heap.size w W) : SmAt w W.heap.size [] (W.alloc (.map #[] 0)) := ⟨Mp.Is.made W _ _ _ _, below_alloc hB _, below_size hB⟩
set_option maxHeartbeats 1500000 in
set_option maxRecDepth 100000 in
theorem bodies_calls (A : Option Addr) (c : Nat) (l : List S30) (w : World) (hr : Kd.C k30 w A l.length l) (hlen : l.length ≤ 1000000000000) (hz : ∀ j : Nat, j < l.length → (rd_T30 l j).f0.size ≤ maxLen) :
    Calls Tryd.prog 13 #[.slice A l.length c] w fun e w' => ∃ b, e = .returned (.map (some b)) ∧ SmAt w b (bd l l.length) w' := by
  have HR := Aside0.mk hr
  have HZ := Aside0.mk hz
  clear hr hz
  have hu30 := Tryd.underlying30
  have hmk := @run_makeMap Tryd.prog
  go_enter Tryd.func13, Tryd.ntmps13
  go_wp2_with fail
  have HS := Aside0.mk (show SmAt w w.heap.size (bd l 0) (w.alloc (.map #[] 0)) from SmAt.new (Below.refl _ _))
  generalize w.alloc (.map #[] 0) = w0 at HS ⊢
  go_loopw [9] (fun i wr => ∃ j : Nat, j ≤ l.length ∧ i = .int .i64 j ∧ Aside0 (SmAt w w.heap.size (bd l j) wr)) (fun i _ => l.length - (intOf i).toNat)
  case atStart => exact ⟨0, Nat.zero_le _, rfl, HS⟩
  case round =>
    clear HS
    obtain ⟨j, hj, rfl, HS⟩ := hrel
    by_cases hlt : j < l.length
    · obtain ⟨ad, rfl, x0, x1⟩ := at_T30 (Kd.C_below HR.out HS.out.B) j (by omega) (by omega)
      rw [Int.toNat_natCast] at x0 x1
      have Z1 := Aside0.mk (HZ.out j hlt)
      generalize hx : rd_T30 l j = x at *
      have HX := Aside0.mk hx
      clear hx
      have hlt' : (j : Int) < (l.length : Int) := by omega
      obtain ⟨q, hq⟩ := tm_q1 x.f0 Z1.out
      have HQ := Aside0.mk hq
      clear hq
      go_wp2_with (at_mapUpdate; refine Mp.wp_put (V := E1) rfl _ _ _ rfl tm_k1 Tryd.underlying43 E1_inj rfl (HS.out.alloc _).M x.f0 x.f1 q rfl rfl HQ.out ?_; intro w2 hm2 hg2; have HS2 := Aside0.mk ((HS.out.alloc _).put hm2 hg2); clear hm2 hg2)
      go_round
      case measure => simp [intOf]; omega
      case rel => exact ⟨j + 1, by omega, by simp, ⟨by show SmAt w _ (((rd_T30 l j).f0, (rd_T30 l j).f1) :: bd l j) _; rw [HX.out]; exact HS2.out⟩⟩
    · obtain rfl : j = l.length := by omega
      have hlt' : ¬ ((l.length : Int) < (l.length : Int)) := by omega
      go_wp2_with fail
      go_ret
      exact ⟨_, rfl, HS.out⟩
end Go.Proofs.YtbldjamcnohfjaaDoor.PTopServed
