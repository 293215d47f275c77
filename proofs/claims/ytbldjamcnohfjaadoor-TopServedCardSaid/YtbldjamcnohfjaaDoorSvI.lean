/- For TopServed: sort.Strings over a row of the call's own. No condition. -/
import Derived.Test.YtbldjamcnohfjaaDoorSvA
import Derived.Test.YtbldjamcnohfjaaDoorSPlain
import Derived.Sort.OwnSorted
import Derived.Shelf.Slices.In.SortNone2
namespace Go.Proofs.YtbldjamcnohfjaaDoor.PTopServed
open Go.RowKit Go.Proofs.YtbldjamcnohfjaaDoorW.PrintWords Go.Proofs.YtbldjamcnohfjaaDoorW.PrintLast Go.Proofs.YtbldjamcnohfjaaDoorW.PrintMore
set_option linter.unusedVariables false
set_option linter.unusedSimpArgs false
def bys (s : ByteArray) : List UInt8 := s.data.toList
def ofb (l : List UInt8) : ByteArray := ⟨l.toArray⟩
theorem ofb_bys (s : ByteArray) : ofb (bys s) = s := rfl
/-- the strings in order -/
def srt (xs : List ByteArray) : List ByteArray := ((xs.map bys).mergeSort fun x y => decide (x ≤ y)).map ofb
theorem srt_len (xs : List ByteArray) : (srt xs).length = xs.length := by unfold srt; simp [List.length_mergeSort]
theorem enc_bys (xs : List ByteArray) : (xs.map bys).map Go.Proofs.encStr = xs.map Value.string := by
  rw [List.map_map]
  rfl
theorem enc_srt (xs : List ByteArray) : ((xs.map bys).mergeSort fun x y => decide (x ≤ y)).map Go.Proofs.encStr = (srt xs).map Value.string := by
  unfold srt
  rw [List.map_map]
  rfl
theorem reps_str {ok : Nat → Prop} {w : World} {base : Nat} {xs : List ByteArray} {cs : List Value} (h : Reps (Kd.string.M w base ok) 1 xs cs) : cs = xs.map Value.string := by
  obtain ⟨hl, h⟩ := h
  apply List.ext_getElem?
  intro j
  by_cases hj : j < xs.length
  · have h1 := h j xs[j] (List.getElem?_eq_getElem hj)
    have h2 : (cs.drop (j * 1)).take 1 = [Value.string xs[j]] := h1
    rw [Nat.mul_one] at h2
    rw [List.getElem?_map, List.getElem?_eq_getElem hj]
    have h3 : ((cs.drop j).take 1)[0]? = some (Value.string xs[j]) := by rw [h2]; rfl
    rw [List.getElem?_take_of_lt (by decide), List.getElem?_drop] at h3
    simpa using h3
  · rw [List.getElem?_eq_none (by omega), List.getElem?_eq_none (by rw [List.length_map]; omega)]
theorem R_str {w : World} {base : Nat} {v : Value} {xs : List ByteArray} (h : w.ownsRow base 9 1 v xs.length (xs.map Value.string)) : Kd.R Kd.string 9 w base (fun _ => True) v xs :=
  ⟨fun _ _ => trivial, xs.map Value.string, h, Kd.reps_scalar xs⟩
open Go.Sort in
theorem sort_own (w W : World) (v : Value) (xs : List ByteArray) (hR : Kd.R Kd.string 9 W w.heap.size (fun _ => True) v xs) (hB : Below w.heap.size w W) (hn : xs.length ≤ 1000000000000) :
    Calls Tryd.prog 14 #[v] W fun e w' => e = .returned (.tuple #[]) ∧ Kd.R Kd.string 9 w' w.heap.size (fun _ => True) v (srt xs) ∧ Below w.heap.size w w' := by
  obtain ⟨_, inner, ho, hr⟩ := hR
  have hi := reps_str hr
  subst hi
  clear hr
  rcases ho.2 with ⟨rfl, h0⟩ | ⟨g, cap, cur, rfl, hg, hb, h1, h2, h3, h4⟩
  · have hx : xs = [] := List.eq_nil_of_length_eq_zero h0
    subst hx
    have h := Any.sort_Strings_none Shelf.Tryd.lays192 none 0 W
    change Calls Tryd.prog 14 _ _ _ at h
    refine h.mono ?_
    rintro e w' ⟨rfl, rfl⟩
    exact ⟨rfl, by unfold srt; simp [Kd.R_nil], hB⟩
  · have hH : Holds encStr W g 0 (xs.map bys).toArray := holds_of_block hb (by rw [List.length_map, enc_bys, ← h4, show Kd.string.sz = 1 from rfl, Nat.mul_one])
    have h := Shelf.Tryd.sort_Strings g 0 cap (xs.map bys) W hH (Array.getElem?_eq_some_iff.1 hb).1 (by rw [List.length_map]; omega)
    rw [List.length_map] at h
    refine h.mono ?_
    rintro e w' ⟨rfl, n, os, rfl⟩
    refine ⟨rfl, R_str ?_, hB.trans (Mp.grown_below (grownBy_sorted _) hg (below_size hB))⟩
    have hl : ((xs.map bys).mergeSort fun x y => decide (x ≤ y)).length = (xs.map bys).length := List.length_mergeSort _
    have h5 := ownsRow_sorted (n := n) (os := os) (base := w.heap.size) hl hg hb (by rw [List.length_map]; exact h1) h2 h3
    rw [enc_srt, List.length_map] at h5
    rw [srt_len]
    exact h5
end Go.Proofs.YtbldjamcnohfjaaDoor.PTopServed
