-- Made for this claim by a program of this session (xprint.py over the kit's printing program); Lean checks it.
import Derived.Test.YtcgmieeojngceaaDoorProg
import Derived.Below
import Derived.Deep.Draws
import Derived.Deep.AppendLies
import Derived.Maps.AppendAt
import Derived.OwnWalk
import Derived.Laws.BytesArg
import Derived.Laws.MakeOwn
import Derived.Laws.OwnMore
import Derived.Deep.OwnRows
import Derived.Tactics
import Derived.Lib.ConvBytes
import Derived.Laws.Slices
import Derived.WalkKit
import Derived.KernelRfl
import Derived.RowKit3
import Derived.Deep.LoopGhost
import Derived.Deep.QuietTactic
import Derived.BigQuiet
import Derived.WideLaws
import Derived.Deep.DeepCutAuto
import Derived.Deep.CutBlock
import Derived.Deep.RegionHeld3
import Derived.Laws.Rows
import Derived.Lib.AppendStr
import Derived.ArgAppend
import Derived.Laws.IdiomCopy
import Derived.OrdersHeld
import Derived.Laws.BitsLemmas
import Derived.RowKit
import Derived.Test.YtcgmieeojngceaaDoorWWords
import Derived.Test.YtcgmieeojngceaaDoorWLast
import Derived.Test.YtcgmieeojngceaaDoorWTab
import Derived.Test.YtcgmieeojngceaaDoorWQPut
import Derived.Test.YtcgmieeojngceaaDoorWApart
import Derived.Test.YtcgmieeojngceaaDoorWArr
import Derived.Test.YtcgmieeojngceaaDoorWZeros
import Derived.Test.YtcgmieeojngceaaDoorWFoot
import Derived.Test.YtcgmieeojngceaaDoorWKept
import Derived.Test.YtcgmieeojngceaaDoorWShare
import Derived.Test.YtcgmieeojngceaaDoorWN
import Derived.Test.YtcgmieeojngceaaDoorWGuard
import Derived.Test.YtcgmieeojngceaaDoorWNEv
import Derived.Test.YtcgmieeojngceaaDoorWMore
import Derived.Deep.LoopGhost
import Derived.Deep.OwnRows
import Derived.Lib.Hide
import Derived.Lib.IndexBytes
import Derived.Lib.Split
import Derived.Lib.Strings
import Derived.Shelf.Strings.SlTrimAscii
import Derived.Test.YtcgmieeojngceaaDoorLess
import Derived.Test.YtcgmieeojngceaaDoorSPlain
import Derived.Test.YtcgmieeojngceaaDoorSstringsCount
import Derived.Test.YtcgmieeojngceaaDoorSstringsIndex
namespace Go.Proofs.YtcgmieeojngceaaDoor.PTreeTranslates
open Go.RowKit Go.Proofs.YtcgmieeojngceaaDoorW.PrintWords Go.Proofs.YtcgmieeojngceaaDoorW.PrintLast Go.Proofs.YtcgmieeojngceaaDoorW.PrintMore
attribute [local go_sem] max2_int min2_int max_two min_two max_three min_three max_four min_four   -- for this text's walks alone
set_option linter.unusedVariables false
set_option linter.unusedSimpArgs false



def errW : Option Int → Value
 | none => .nilIface
 | some c => .iface 0 (.int .i64 c)
theorem errW_none : errW none = .nilIface := rfl
theorem errW_some (c : Int) : errW (some c) = .iface 0 (.int .i64 c) := rfl

theorem info3 : (Tryd.prog.info? 3).map (fun i => (i.zero, i.size, i.bytes)) = some (some (.int .i64 0), 1, 8) := by kernel_rfl
theorem info9 : (Tryd.prog.info? 9).map (fun i => (i.zero, i.size, i.bytes)) = some (some (.string ⟨#[]⟩), 1, 16) := by kernel_rfl
-- the values' own types
def rd_L3 (xs : List (List ByteArray)) (i : Int) : (List ByteArray) := xs.getD i.toNat ([] : List ByteArray)
theorem at_L3 {w : World} {A : Option Addr} {n : Nat} {xs : List (List ByteArray)} (h : Kd.C (Kd.slice 9 Kd.string) w A n xs) (i : Int) (h0 : 0 ≤ i) (h1 : i < n) : ∃ ad A0 c0, A = some ad ∧ w.cell? (ad.add i.toNat) = some (.slice A0 (rd_L3 xs i).length c0) ∧ (rd_L3 xs i).length ≤ c0 ∧ Kd.string.C w A0 (rd_L3 xs i).length (rd_L3 xs i) := by
 obtain ⟨ad, c, e, _, hK, hc0⟩ := Kd.C_get h ([] : List ByteArray) i h0 h1
 have hc : ∀ j u, c[j]? = some u → w.cell? (ad.add (i.toNat * 1 + j)) = some u := hc0
 obtain ⟨A0, c0, rfl, l0, g0⟩ := hK
 exact ⟨ad, A0, c0, e, by have hq := hc 0 _ rfl; rwa [Nat.mul_one, Nat.add_zero] at hq, l0, g0⟩

/-! #### struct type 37, nested in itself -/
structure S37 where
 f0 : Int
 f1 : Bool
 f2 : Int
 f3 : ByteArray
 f4 : (List S37)
 f5 : (List ByteArray)
def z37 : S37 := ⟨(0 : Int), false, (0 : Int), (⟨#[]⟩ : ByteArray), ([] : List S37), ([] : List ByteArray)⟩
def F37 (d : Kd S37) : Kd S37 := Kd.iso (Kd.pair (Kd.int .i64) (Kd.pair Kd.bool (Kd.pair (Kd.int .i64) (Kd.pair Kd.string (Kd.pair (Kd.slice 37 d) (Kd.slice 9 Kd.string)))))) (fun x : S37 => (x.f0, x.f1, x.f2, x.f3, x.f4, x.f5))
theorem mono37 : Kd.Mono F37 := Kd.mono_iso _ (Kd.mono_pair (Kd.mono_const _) (Kd.mono_pair (Kd.mono_const _) (Kd.mono_pair (Kd.mono_const _) (Kd.mono_pair (Kd.mono_const _) (Kd.mono_pair (Kd.mono_slice 37 Kd.mono_id) (Kd.mono_const _))))))
theorem sub37 : Kd.Sub F37 [9, 37] := Kd.sub_iso _ (Kd.sub_pair (Kd.sub_const _ (by decide)) (Kd.sub_pair (Kd.sub_const _ (by decide)) (Kd.sub_pair (Kd.sub_const _ (by decide)) (Kd.sub_pair (Kd.sub_const _ (by decide)) (Kd.sub_pair (Kd.sub_slice 37 (by decide) Kd.sub_id) (Kd.sub_const _ (by decide)))))))
theorem sz37 : ∀ n, (Kd.upto F37 6 [9, 37] n).sz = 6 := Kd.upto_sz (fun _ => rfl)
def k37 : Kd S37 := Kd.fix F37 6 [9, 37] sz37 (Kd.upto_E sub37)
theorem k37_open {w : World} {x : S37} {cs : List Value} (h : k37.K w x cs) : ∃ A4 c4 A5 c5, cs = [.int .i64 x.f0, .bool x.f1, .int .i64 x.f2, .string x.f3, .slice A4 x.f4.length c4, .slice A5 x.f5.length c5] ∧ x.f4.length ≤ c4 ∧ k37.C w A4 x.f4.length x.f4 ∧ x.f5.length ≤ c5 ∧ Kd.string.C w A5 x.f5.length x.f5 := by
 obtain ⟨n, h⟩ := h
 cases n with
 | zero => exact h.elim
 | succ n =>
  obtain ⟨_, _, rfl, rfl, ⟨_, _, rfl, rfl, ⟨_, _, rfl, rfl, ⟨_, _, rfl, rfl, ⟨_, _, rfl, ⟨A4, c4, rfl, l4, g4⟩, ⟨A5, c5, rfl, l5, g5⟩⟩⟩⟩⟩⟩ := h
  exact ⟨A4, c4, A5, c5, rfl, l4, Kd.fix_C g4, l5, g5⟩
theorem k37_openM {w : World} {base : Nat} {ok : Nat → Prop} {x : S37} {cs : List Value} (h : k37.M w base ok x cs) : ∃ v4 v5, cs = [.int .i64 x.f0, .bool x.f1, .int .i64 x.f2, .string x.f3, v4, v5] ∧ k37.R 37 w base ok v4 x.f4 ∧ Kd.string.R 9 w base ok v5 x.f5 := by
 obtain ⟨n, h⟩ := h
 cases n with
 | zero => exact h.elim
 | succ n =>
  obtain ⟨_, _, rfl, rfl, ⟨_, _, rfl, rfl, ⟨_, _, rfl, rfl, ⟨_, _, rfl, rfl, ⟨_, _, rfl, ⟨v4, rfl, g4⟩, ⟨v5, rfl, g5⟩⟩⟩⟩⟩⟩ := h
  exact ⟨v4, v5, rfl, Kd.fix_R g4, g5⟩
theorem k37_mk (w : World) (x : S37) {A4 : Option Addr} {c4 : Nat} (l4 : x.f4.length ≤ c4) (g4 : k37.C w A4 x.f4.length x.f4) {A5 : Option Addr} {c5 : Nat} (l5 : x.f5.length ≤ c5) (g5 : Kd.string.C w A5 x.f5.length x.f5) : k37.K w x [.int .i64 x.f0, .bool x.f1, .int .i64 x.f2, .string x.f3, .slice A4 x.f4.length c4, .slice A5 x.f5.length c5] := by
 obtain ⟨n4, q4⟩ := Kd.fix_C_back mono37 g4
 have r4 := Kd.upto_C_le mono37 sz37 (show n4 ≤ n4 by omega) q4
 exact ⟨n4 + 1, ⟨[.int .i64 x.f0], [.bool x.f1, .int .i64 x.f2, .string x.f3, .slice A4 x.f4.length c4, .slice A5 x.f5.length c5], rfl, rfl, ⟨[.bool x.f1], [.int .i64 x.f2, .string x.f3, .slice A4 x.f4.length c4, .slice A5 x.f5.length c5], rfl, rfl, ⟨[.int .i64 x.f2], [.string x.f3, .slice A4 x.f4.length c4, .slice A5 x.f5.length c5], rfl, rfl, ⟨[.string x.f3], [.slice A4 x.f4.length c4, .slice A5 x.f5.length c5], rfl, rfl, ⟨[.slice A4 x.f4.length c4], [.slice A5 x.f5.length c5], rfl, ⟨A4, c4, rfl, l4, r4⟩, ⟨A5, c5, rfl, l5, g5⟩⟩⟩⟩⟩⟩⟩
theorem k37_mkM (w : World) (base : Nat) (ok : Nat → Prop) (x : S37) {v4 : Value} (g4 : k37.R 37 w base ok v4 x.f4) {v5 : Value} (g5 : Kd.string.R 9 w base ok v5 x.f5) : k37.M w base ok x [.int .i64 x.f0, .bool x.f1, .int .i64 x.f2, .string x.f3, v4, v5] := by
 obtain ⟨n4, q4⟩ := Kd.fix_R_back mono37 g4
 have r4 := Kd.upto_R_le mono37 sz37 (show n4 ≤ n4 by omega) q4
 exact ⟨n4 + 1, ⟨[.int .i64 x.f0], [.bool x.f1, .int .i64 x.f2, .string x.f3, v4, v5], rfl, rfl, ⟨[.bool x.f1], [.int .i64 x.f2, .string x.f3, v4, v5], rfl, rfl, ⟨[.int .i64 x.f2], [.string x.f3, v4, v5], rfl, rfl, ⟨[.string x.f3], [v4, v5], rfl, rfl, ⟨[v4], [v5], rfl, ⟨v4, rfl, r4⟩, ⟨v5, rfl, g5⟩⟩⟩⟩⟩⟩⟩
def rd_T37 (xs : List S37) (i : Int) : S37 := xs.getD i.toNat z37
theorem at_T37 {w : World} {A : Option Addr} {n : Nat} {xs : List S37} (h : Kd.C k37 w A n xs) (i : Int) (h0 : 0 ≤ i) (h1 : i < n) : ∃ ad A4 c4 A5 c5, A = some ad ∧ w.cell? (ad.add (i.toNat * 6)) = some (.int .i64 (rd_T37 xs i).f0) ∧ w.cell? ⟨(ad.add (i.toNat * 6)).block, (ad.add (i.toNat * 6)).off + 1, none⟩ = some (.bool (rd_T37 xs i).f1) ∧ w.cell? ⟨(ad.add (i.toNat * 6)).block, (ad.add (i.toNat * 6)).off + 2, none⟩ = some (.int .i64 (rd_T37 xs i).f2) ∧ w.cell? ⟨(ad.add (i.toNat * 6)).block, (ad.add (i.toNat * 6)).off + 3, none⟩ = some (.string (rd_T37 xs i).f3) ∧ w.cell? ⟨(ad.add (i.toNat * 6)).block, (ad.add (i.toNat * 6)).off + 4, none⟩ = some (.slice A4 (rd_T37 xs i).f4.length c4) ∧ w.cell? ⟨(ad.add (i.toNat * 6)).block, (ad.add (i.toNat * 6)).off + 5, none⟩ = some (.slice A5 (rd_T37 xs i).f5.length c5) ∧ (rd_T37 xs i).f4.length ≤ c4 ∧ k37.C w A4 (rd_T37 xs i).f4.length (rd_T37 xs i).f4 ∧ (rd_T37 xs i).f5.length ≤ c5 ∧ Kd.string.C w A5 (rd_T37 xs i).f5.length (rd_T37 xs i).f5 := by
 obtain ⟨ad, c, e, _, hK, hc0⟩ := Kd.C_get h z37 i h0 h1
 have hc : ∀ j u, c[j]? = some u → w.cell? (ad.add (i.toNat * 6 + j)) = some u := hc0
 obtain ⟨A4, c4, A5, c5, rfl, l4, g4, l5, g5⟩ := k37_open hK
 exact ⟨ad, A4, c4, A5, c5, e, hc 0 _ rfl, by rw [← add_field _ _ 1 (by omega)]; exact hc 1 _ rfl, by rw [← add_field _ _ 2 (by omega)]; exact hc 2 _ rfl, by rw [← add_field _ _ 3 (by omega)]; exact hc 3 _ rfl, by rw [← add_field _ _ 4 (by omega)]; exact hc 4 _ rfl, by rw [← add_field _ _ 5 (by omega)]; exact hc 5 _ rfl, l4, g4, l5, g5⟩

/-! #### struct type 39 -/
structure S39 where
 f0 : ByteArray
 f1 : ByteArray
 f2 : ByteArray
 f3 : ByteArray
 f4 : Int
 f5 : S37
 f6 : ByteArray
 f7 : (List ByteArray)
def z39 : S39 := ⟨(⟨#[]⟩ : ByteArray), (⟨#[]⟩ : ByteArray), (⟨#[]⟩ : ByteArray), (⟨#[]⟩ : ByteArray), (0 : Int), z37, (⟨#[]⟩ : ByteArray), ([] : List ByteArray)⟩
def k39 : Kd S39 := Kd.iso (Kd.pair Kd.string (Kd.pair Kd.string (Kd.pair Kd.string (Kd.pair Kd.string (Kd.pair (Kd.int .i64) (Kd.pair k37 (Kd.pair Kd.string (Kd.slice 9 Kd.string)))))))) (fun x : S39 => (x.f0, x.f1, x.f2, x.f3, x.f4, x.f5, x.f6, x.f7))
theorem k39_open {w : World} {x : S39} {cs : List Value} (h : k39.K w x cs) : ∃ A9 c9 A10 c10 A12 c12, cs = [.string x.f0, .string x.f1, .string x.f2, .string x.f3, .int .i64 x.f4, .int .i64 x.f5.f0, .bool x.f5.f1, .int .i64 x.f5.f2, .string x.f5.f3, .slice A9 x.f5.f4.length c9, .slice A10 x.f5.f5.length c10, .string x.f6, .slice A12 x.f7.length c12] ∧ x.f5.f4.length ≤ c9 ∧ k37.C w A9 x.f5.f4.length x.f5.f4 ∧ x.f5.f5.length ≤ c10 ∧ Kd.string.C w A10 x.f5.f5.length x.f5.f5 ∧ x.f7.length ≤ c12 ∧ Kd.string.C w A12 x.f7.length x.f7 := by
 obtain ⟨_, _, rfl, rfl, ⟨_, _, rfl, rfl, ⟨_, _, rfl, rfl, ⟨_, _, rfl, rfl, ⟨_, _, rfl, rfl, ⟨_, _, rfl, s5, ⟨_, _, rfl, rfl, ⟨A12, c12, rfl, l12, g12⟩⟩⟩⟩⟩⟩⟩⟩ := h
 obtain ⟨A9, c9, A10, c10, rfl, l9, g9, l10, g10⟩ := k37_open s5
 exact ⟨A9, c9, A10, c10, A12, c12, rfl, l9, g9, l10, g10, l12, g12⟩
theorem k39_openM {w : World} {base : Nat} {ok : Nat → Prop} {x : S39} {cs : List Value} (h : k39.M w base ok x cs) : ∃ v9 v10 v12, cs = [.string x.f0, .string x.f1, .string x.f2, .string x.f3, .int .i64 x.f4, .int .i64 x.f5.f0, .bool x.f5.f1, .int .i64 x.f5.f2, .string x.f5.f3, v9, v10, .string x.f6, v12] ∧ k37.R 37 w base ok v9 x.f5.f4 ∧ Kd.string.R 9 w base ok v10 x.f5.f5 ∧ Kd.string.R 9 w base ok v12 x.f7 := by
 obtain ⟨_, _, rfl, rfl, ⟨_, _, rfl, rfl, ⟨_, _, rfl, rfl, ⟨_, _, rfl, rfl, ⟨_, _, rfl, rfl, ⟨_, _, rfl, s5, ⟨_, _, rfl, rfl, ⟨v12, rfl, g12⟩⟩⟩⟩⟩⟩⟩⟩ := h
 obtain ⟨v9, v10, rfl, g9, g10⟩ := k37_openM s5
 exact ⟨v9, v10, v12, rfl, g9, g10, g12⟩
theorem k39_mk (w : World) (x : S39) {A9 : Option Addr} {c9 : Nat} (l9 : x.f5.f4.length ≤ c9) (g9 : k37.C w A9 x.f5.f4.length x.f5.f4) {A10 : Option Addr} {c10 : Nat} (l10 : x.f5.f5.length ≤ c10) (g10 : Kd.string.C w A10 x.f5.f5.length x.f5.f5) {A12 : Option Addr} {c12 : Nat} (l12 : x.f7.length ≤ c12) (g12 : Kd.string.C w A12 x.f7.length x.f7) : k39.K w x [.string x.f0, .string x.f1, .string x.f2, .string x.f3, .int .i64 x.f4, .int .i64 x.f5.f0, .bool x.f5.f1, .int .i64 x.f5.f2, .string x.f5.f3, .slice A9 x.f5.f4.length c9, .slice A10 x.f5.f5.length c10, .string x.f6, .slice A12 x.f7.length c12] := ⟨[.string x.f0], [.string x.f1, .string x.f2, .string x.f3, .int .i64 x.f4, .int .i64 x.f5.f0, .bool x.f5.f1, .int .i64 x.f5.f2, .string x.f5.f3, .slice A9 x.f5.f4.length c9, .slice A10 x.f5.f5.length c10, .string x.f6, .slice A12 x.f7.length c12], rfl, rfl, ⟨[.string x.f1], [.string x.f2, .string x.f3, .int .i64 x.f4, .int .i64 x.f5.f0, .bool x.f5.f1, .int .i64 x.f5.f2, .string x.f5.f3, .slice A9 x.f5.f4.length c9, .slice A10 x.f5.f5.length c10, .string x.f6, .slice A12 x.f7.length c12], rfl, rfl, ⟨[.string x.f2], [.string x.f3, .int .i64 x.f4, .int .i64 x.f5.f0, .bool x.f5.f1, .int .i64 x.f5.f2, .string x.f5.f3, .slice A9 x.f5.f4.length c9, .slice A10 x.f5.f5.length c10, .string x.f6, .slice A12 x.f7.length c12], rfl, rfl, ⟨[.string x.f3], [.int .i64 x.f4, .int .i64 x.f5.f0, .bool x.f5.f1, .int .i64 x.f5.f2, .string x.f5.f3, .slice A9 x.f5.f4.length c9, .slice A10 x.f5.f5.length c10, .string x.f6, .slice A12 x.f7.length c12], rfl, rfl, ⟨[.int .i64 x.f4], [.int .i64 x.f5.f0, .bool x.f5.f1, .int .i64 x.f5.f2, .string x.f5.f3, .slice A9 x.f5.f4.length c9, .slice A10 x.f5.f5.length c10, .string x.f6, .slice A12 x.f7.length c12], rfl, rfl, ⟨[.int .i64 x.f5.f0, .bool x.f5.f1, .int .i64 x.f5.f2, .string x.f5.f3, .slice A9 x.f5.f4.length c9, .slice A10 x.f5.f5.length c10], [.string x.f6, .slice A12 x.f7.length c12], rfl, (k37_mk w x.f5 l9 g9 l10 g10), ⟨[.string x.f6], [.slice A12 x.f7.length c12], rfl, rfl, ⟨A12, c12, rfl, l12, g12⟩⟩⟩⟩⟩⟩⟩⟩
theorem k39_mkM (w : World) (base : Nat) (ok : Nat → Prop) (x : S39) {v9 : Value} (g9 : k37.R 37 w base ok v9 x.f5.f4) {v10 : Value} (g10 : Kd.string.R 9 w base ok v10 x.f5.f5) {v12 : Value} (g12 : Kd.string.R 9 w base ok v12 x.f7) : k39.M w base ok x [.string x.f0, .string x.f1, .string x.f2, .string x.f3, .int .i64 x.f4, .int .i64 x.f5.f0, .bool x.f5.f1, .int .i64 x.f5.f2, .string x.f5.f3, v9, v10, .string x.f6, v12] := ⟨[.string x.f0], [.string x.f1, .string x.f2, .string x.f3, .int .i64 x.f4, .int .i64 x.f5.f0, .bool x.f5.f1, .int .i64 x.f5.f2, .string x.f5.f3, v9, v10, .string x.f6, v12], rfl, rfl, ⟨[.string x.f1], [.string x.f2, .string x.f3, .int .i64 x.f4, .int .i64 x.f5.f0, .bool x.f5.f1, .int .i64 x.f5.f2, .string x.f5.f3, v9, v10, .string x.f6, v12], rfl, rfl, ⟨[.string x.f2], [.string x.f3, .int .i64 x.f4, .int .i64 x.f5.f0, .bool x.f5.f1, .int .i64 x.f5.f2, .string x.f5.f3, v9, v10, .string x.f6, v12], rfl, rfl, ⟨[.string x.f3], [.int .i64 x.f4, .int .i64 x.f5.f0, .bool x.f5.f1, .int .i64 x.f5.f2, .string x.f5.f3, v9, v10, .string x.f6, v12], rfl, rfl, ⟨[.int .i64 x.f4], [.int .i64 x.f5.f0, .bool x.f5.f1, .int .i64 x.f5.f2, .string x.f5.f3, v9, v10, .string x.f6, v12], rfl, rfl, ⟨[.int .i64 x.f5.f0, .bool x.f5.f1, .int .i64 x.f5.f2, .string x.f5.f3, v9, v10], [.string x.f6, v12], rfl, (k37_mkM w base ok x.f5 g9 g10), ⟨[.string x.f6], [v12], rfl, rfl, ⟨v12, rfl, g12⟩⟩⟩⟩⟩⟩⟩⟩
def rd_T39 (xs : List S39) (i : Int) : S39 := xs.getD i.toNat z39
theorem at_T39 {w : World} {A : Option Addr} {n : Nat} {xs : List S39} (h : Kd.C k39 w A n xs) (i : Int) (h0 : 0 ≤ i) (h1 : i < n) : ∃ ad A9 c9 A10 c10 A12 c12, A = some ad ∧ w.cell? (ad.add (i.toNat * 13)) = some (.string (rd_T39 xs i).f0) ∧ w.cell? ⟨(ad.add (i.toNat * 13)).block, (ad.add (i.toNat * 13)).off + 1, none⟩ = some (.string (rd_T39 xs i).f1) ∧ w.cell? ⟨(ad.add (i.toNat * 13)).block, (ad.add (i.toNat * 13)).off + 2, none⟩ = some (.string (rd_T39 xs i).f2) ∧ w.cell? ⟨(ad.add (i.toNat * 13)).block, (ad.add (i.toNat * 13)).off + 3, none⟩ = some (.string (rd_T39 xs i).f3) ∧ w.cell? ⟨(ad.add (i.toNat * 13)).block, (ad.add (i.toNat * 13)).off + 4, none⟩ = some (.int .i64 (rd_T39 xs i).f4) ∧ w.cell? ⟨(ad.add (i.toNat * 13)).block, (ad.add (i.toNat * 13)).off + 5, none⟩ = some (.int .i64 (rd_T39 xs i).f5.f0) ∧ w.cell? ⟨(ad.add (i.toNat * 13)).block, (ad.add (i.toNat * 13)).off + 6, none⟩ = some (.bool (rd_T39 xs i).f5.f1) ∧ w.cell? ⟨(ad.add (i.toNat * 13)).block, (ad.add (i.toNat * 13)).off + 7, none⟩ = some (.int .i64 (rd_T39 xs i).f5.f2) ∧ w.cell? ⟨(ad.add (i.toNat * 13)).block, (ad.add (i.toNat * 13)).off + 8, none⟩ = some (.string (rd_T39 xs i).f5.f3) ∧ w.cell? ⟨(ad.add (i.toNat * 13)).block, (ad.add (i.toNat * 13)).off + 9, none⟩ = some (.slice A9 (rd_T39 xs i).f5.f4.length c9) ∧ w.cell? ⟨(ad.add (i.toNat * 13)).block, (ad.add (i.toNat * 13)).off + 10, none⟩ = some (.slice A10 (rd_T39 xs i).f5.f5.length c10) ∧ w.cell? ⟨(ad.add (i.toNat * 13)).block, (ad.add (i.toNat * 13)).off + 11, none⟩ = some (.string (rd_T39 xs i).f6) ∧ w.cell? ⟨(ad.add (i.toNat * 13)).block, (ad.add (i.toNat * 13)).off + 12, none⟩ = some (.slice A12 (rd_T39 xs i).f7.length c12) ∧ (rd_T39 xs i).f5.f4.length ≤ c9 ∧ k37.C w A9 (rd_T39 xs i).f5.f4.length (rd_T39 xs i).f5.f4 ∧ (rd_T39 xs i).f5.f5.length ≤ c10 ∧ Kd.string.C w A10 (rd_T39 xs i).f5.f5.length (rd_T39 xs i).f5.f5 ∧ (rd_T39 xs i).f7.length ≤ c12 ∧ Kd.string.C w A12 (rd_T39 xs i).f7.length (rd_T39 xs i).f7 := by
 obtain ⟨ad, c, e, _, hK, hc0⟩ := Kd.C_get h z39 i h0 h1
 have hc : ∀ j u, c[j]? = some u → w.cell? (ad.add (i.toNat * 13 + j)) = some u := hc0
 obtain ⟨A9, c9, A10, c10, A12, c12, rfl, l9, g9, l10, g10, l12, g12⟩ := k39_open hK
 exact ⟨ad, A9, c9, A10, c10, A12, c12, e, hc 0 _ rfl, by rw [← add_field _ _ 1 (by omega)]; exact hc 1 _ rfl, by rw [← add_field _ _ 2 (by omega)]; exact hc 2 _ rfl, by rw [← add_field _ _ 3 (by omega)]; exact hc 3 _ rfl, by rw [← add_field _ _ 4 (by omega)]; exact hc 4 _ rfl, by rw [← add_field _ _ 5 (by omega)]; exact hc 5 _ rfl, by rw [← add_field _ _ 6 (by omega)]; exact hc 6 _ rfl, by rw [← add_field _ _ 7 (by omega)]; exact hc 7 _ rfl, by rw [← add_field _ _ 8 (by omega)]; exact hc 8 _ rfl, by rw [← add_field _ _ 9 (by omega)]; exact hc 9 _ rfl, by rw [← add_field _ _ 10 (by omega)]; exact hc 10 _ rfl, by rw [← add_field _ _ 11 (by omega)]; exact hc 11 _ rfl, by rw [← add_field _ _ 12 (by omega)]; exact hc 12 _ rfl, l9, g9, l10, g10, l12, g12⟩

end Go.Proofs.YtcgmieeojngceaaDoor.PTreeTranslates
