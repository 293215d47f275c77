/- For TopServed: a string without percent signs is decoded to itself. -/
import Derived.Test.YtbldjamcnohfjaaDoorSvA
namespace Go.Proofs.YtbldjamcnohfjaaDoor.PTopServed
open Go.RowKit Go.Proofs.YtbldjamcnohfjaaDoorW.PrintWords Go.Proofs.YtbldjamcnohfjaaDoorW.PrintLast Go.Proofs.YtbldjamcnohfjaaDoorW.PrintMore
set_option linter.unusedVariables false
set_option linter.unusedSimpArgs false
theorem info5 : (Tryd.prog.info? 5).map (fun i => (i.zero, i.size, i.bytes)) = some (some (.int .u8 0), 1, 1) := by kernel_rfl
/-- the first i bytes, as numbers -/
def dcd (s : ByteArray) (i : Nat) : List Int := (s.data.toList.take i).map fun c => (c.toNat : Int)
theorem dcd_len (s : ByteArray) (i : Nat) (h : i ≤ s.size) : (dcd s i).length = i := by
  unfold dcd
  rw [List.length_map, List.length_take]
  have := Lib.size_eq s
  omega
theorem dcd_succ (s : ByteArray) (i : Nat) (h : i < s.size) : dcd s (i + 1) = dcd s i ++ [bt s (i : Int)] := by
  have hl : i < s.data.toList.length := by have := Lib.size_eq s; omega
  unfold dcd
  rw [List.take_succ_eq_append_getElem hl, List.map_append, List.map_singleton]
  congr 2
  have := bt_at s (i : Int) (by simpa using h)
  rw [← this]
  rfl
theorem dcd_all (s : ByteArray) : strOfNums (dcd s s.size) = s := by
  have hz := Lib.size_eq s
  unfold dcd strOfNums
  rw [hz, List.take_length, List.map_map]
  have : s.data.toList.map ((fun n : Int => UInt8.ofNat n.toNat) ∘ fun c : UInt8 => (c.toNat : Int)) = s.data.toList := by
    conv => rhs; rw [← List.map_id s.data.toList]
    apply List.map_congr_left
    intro c _
    simp
  first
    | rw [this]
    | (simp only [Function.comp_def] at this ⊢; rw [this])
set_option maxHeartbeats 1500000 in
set_option maxRecDepth 100000 in
theorem decoded_calls (s : ByteArray) (w : World) (hs : s.size ≤ 1000000) (hb : ∀ i : Nat, i < s.size → bt s (i : Int) ≠ 37) :
    Calls Tryd.prog 22 #[.string s] w fun e w' => e = .returned (.string s) ∧ Below w.heap.size w w' := by
  have HBT := Aside0.mk hb
  clear hb
  go_enter Tryd.func22, Tryd.ntmps22
  go_wp2_with fail
  have HO := Aside0.mk (show Kd.R (Kd.int .u8) 5 w w.heap.size (fun _ => True) (.slice none 0 0) (dcd s 0) from Kd.R_nil _ _ _ _ _)
  have HB := Aside0.mk (Below.refl w.heap.size w)
  go_loopw [3, 4] (fun v i wr => ∃ j : Nat, j ≤ s.size ∧ i = .int .i64 j ∧ Aside0 (Kd.R (Kd.int .u8) 5 wr w.heap.size (fun _ => True) v (dcd s j)) ∧ Aside0 (Below w.heap.size w wr)) (fun _ i _ => s.size - (intOf i).toNat)
  case atStart => exact ⟨0, Nat.zero_le _, rfl, HO, HB⟩
  case round =>
    clear HO HB
    obtain ⟨j, hj, rfl, HO, HB⟩ := hrel
    by_cases hlt : j < s.size
    · have hlt' : (j : Int) < (s.size : Int) := by omega
      have e1 : (bt s (j : Int) == 37) = false := beq_eq_false_iff_ne.2 (HBT.out j hlt)
      have hx := bt_at s (j : Int)
      rw [Int.toNat_natCast] at hx
      have HL := Aside0.mk (dcd_len s j hj)
      have HS := Aside0.mk (dcd_succ s j hlt)
      go_wp2_with (first | ((with_reducible refine gate_builtin (b := .append) (xs := #[.tmp 64, .tmp 68]) rfl ?_); at_builtin; (refine Kd.R_append (Kd.int .u8) (w0 := w) w.heap.size rfl (.tmp 64) (.tmp 68) 66 5 (.int .u8 0) 1 rfl Tryd.underlying66 info5 rfl (by decide) (by omega) _ (dcd s j) (bt s (j : Int)) [.int .u8 (bt s (j : Int))] (fun _ => True) (fun _ => False) rfl rfl ?aP (fun _ hk => hk.elim) ?aF ?aO ?aB ?aS ?aL ?_; (case aP => exact rfl); (case aB => exact HB.out); (case aF => exact (fun _ _ => trivial)); (case aO => exact HO.out); (case aS => exact (below_size HB.out)); (case aL => have := HL.out; omega); intro v1 w1 ho hb hg hat; have n0_ := Aside0.mk hb; have n1_ := Aside0.mk ho; clear HB HO; have HB := n0_; have HO := n1_; clear n0_ n1_ ho hb hg hat)))
      go_round
      case measure => simp [intOf]; omega
      case rel => exact ⟨j + 1, by omega, by simp, ⟨by rw [HS.out]; exact HO.out⟩, HB⟩
    · obtain rfl : j = s.size := by omega
      have hlt' : ¬ ((s.size : Int) < (s.size : Int)) := by omega
      have hcv := own_string (P := Tryd.prog) Tryd.underlying66 Tryd.underlying5 Tryd.underlying9 (Kd.own_of_R HO.out)
      rw [dcd_all] at hcv
      go_wp2_with fail
      go_ret
      exact ⟨rfl, HB.out⟩
end Go.Proofs.YtbldjamcnohfjaaDoor.PTopServed
