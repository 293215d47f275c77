/- Byte strings read as lists of bytes: plain lemmas; no condition. -/
import Derived.Test.YtbldjamcnohfjaaDoorWMore
import Derived.Lib.IndexBytes
import Derived.Lib.Bytealg
namespace Go.Proofs.YtbldjamcnohfjaaDoor.Pure
open Go.RowKit Go.Proofs.YtbldjamcnohfjaaDoorW.PrintWords Go.Proofs.YtbldjamcnohfjaaDoorW.PrintLast Go.Proofs.YtbldjamcnohfjaaDoorW.PrintMore
set_option linter.unusedVariables false
set_option linter.unusedSimpArgs false
theorem w64 {n : Int} (h0 : -9223372036854775808 ≤ n) (h1 : n < 9223372036854775808) : wrap64 n = n := by unfold wrap64; omega
def lst (s : ByteArray) : List UInt8 := s.data.toList
theorem lst_len (s : ByteArray) : (lst s).length = s.size := (Lib.size_eq s).symm
theorem lst_app (a b : ByteArray) : lst (a ++ b) = lst a ++ lst b := by unfold lst; simp
theorem lst_ext (s : ByteArray) (a b : Nat) : lst (s.extract a b) = ((lst s).drop a).take (b - a) := Lib.extract_data s a b
theorem lst_end (s : ByteArray) (a : Nat) : lst (s.extract a s.size) = (lst s).drop a := Lib.extract_to_end s a
theorem lst_front (s : ByteArray) (b : Nat) : lst (s.extract 0 b) = (lst s).take b := by rw [lst_ext]; simp
theorem lst_inj {a b : ByteArray} (h : lst a = lst b) : a = b := by cases a; cases b; congr; exact Array.toList_inj.1 h
theorem lst_tl (s : ByteArray) : s.toList = lst s := Lib.toList_data s
theorem lst_mk (l : List UInt8) : lst ⟨l.toArray⟩ = l := rfl
theorem mk_lst (s : ByteArray) : (⟨(lst s).toArray⟩ : ByteArray) = s := lst_inj rfl
theorem bt_lst {s : ByteArray} {i : Nat} (h : i < (lst s).length) : bt s (i : Int) = (((lst s)[i]).toNat : Int) := by
  have h' : i < s.size := by rw [lst_len] at h; exact h
  have := bt_at s (i : Int) (by simpa using h')
  rw [← this]; rfl
theorem bt_mid {s : ByteArray} {A B : List UInt8} {c : UInt8} (h : lst s = A ++ c :: B) : bt s (A.length : Int) = (c.toNat : Int) := by
  rw [bt_lst (by rw [h]; simp)]
  congr 1
  simp [h]
theorem u8_eq {a b : UInt8} : (a.toNat : Int) = (b.toNat : Int) ↔ a = b := by
  constructor
  · intro h; exact UInt8.toNat_inj.1 (by omega)
  · intro h; rw [h]
theorem u8_of (a : UInt8) : ((a.toNat : Int)).toNat.toUInt8 = a := by simp
/-- The last place of a byte. -/
theorem last_of {c : UInt8} : ∀ {L : List UInt8}, c ∈ L → ∃ A B, L = A ++ c :: B ∧ c ∉ B
  | [], h => by cases h
  | x :: L, h => by
    by_cases hL : c ∈ L
    · obtain ⟨A, B, rfl, hB⟩ := last_of hL
      exact ⟨x :: A, B, rfl, hB⟩
    · rcases List.mem_cons.1 h with rfl | h
      · exact ⟨[], L, rfl, hL⟩
      · exact absurd h hL
theorem first_of {c : UInt8} : ∀ {L : List UInt8}, c ∈ L → ∃ A B, L = A ++ c :: B ∧ c ∉ A
  | [], h => by cases h
  | x :: L, h => by
    by_cases hx : c = x
    · exact ⟨[], L, by rw [hx]; rfl, by simp⟩
    · rcases List.mem_cons.1 h with e | h
      · exact absurd e hx
      · obtain ⟨A, B, rfl, hA⟩ := first_of h
        exact ⟨x :: A, B, rfl, by simp [hx, hA]⟩
theorem index_first {c : UInt8} : ∀ {A B : List UInt8}, c ∉ A → Lib.indexByte (A ++ c :: B) c = A.length
  | [], B, _ => by simp [Lib.indexByte]
  | x :: A, B, h => by
    simp only [List.mem_cons, not_or] at h
    have ih := index_first (A := A) (B := B) h.2
    show Lib.indexByte (x :: (A ++ c :: B)) c = _
    unfold Lib.indexByte
    rw [if_neg (by simpa using fun e => h.1 e.symm), if_neg (by rw [ih, beq_iff_eq]; omega), ih]
    simp
theorem index_no {c : UInt8} : ∀ {A : List UInt8}, c ∉ A → Lib.indexByte A c = -1
  | [], _ => rfl
  | x :: A, h => by
    simp only [List.mem_cons, not_or] at h
    unfold Lib.indexByte
    rw [if_neg (by simpa using fun e => h.1 e.symm), if_pos (by rw [index_no h.2]; rfl)]
theorem index_neg {c : UInt8} {A : List UInt8} : Lib.indexByte A c < 0 ↔ c ∉ A := by
  constructor
  · intro h hm
    obtain ⟨X, Y, rfl, hX⟩ := first_of hm
    rw [index_first hX] at h; omega
  · intro h; rw [index_no h]; decide
theorem app_take {A B : List UInt8} {n : Nat} (h : A.length = n) : (A ++ B).take n = A := by rw [← h, List.take_left]
theorem app_drop {A B : List UInt8} {n : Nat} (h : A.length = n) : (A ++ B).drop n = B := by rw [← h, List.drop_left]
theorem get_mid {A B : List UInt8} {c : UInt8} {i : Nat} (h1 : A.length < i) (h : i < (A ++ c :: B).length) : (A ++ c :: B)[i] = B[i - A.length - 1]'(by simp at h; omega) := by
  have e := List.getElem?_append_right (l₁ := A) (l₂ := c :: B) (i := i) (by omega)
  rw [show i - A.length = (i - A.length - 1) + 1 by omega, List.getElem?_cons_succ, List.getElem?_eq_getElem h, List.getElem?_eq_getElem (by simp at h; omega)] at e
  exact Option.some.inj e
theorem get_mid' {L A B : List UInt8} {c : UInt8} {i : Nat} (e : L = A ++ c :: B) (h1 : A.length < i) (h : i < L.length) : L[i] = B[i - A.length - 1]'(by have := congrArg List.length e; simp at this; omega) := by
  subst e; exact get_mid h1 h
theorem empty_tl : (⟨#[]⟩ : ByteArray).toList = [] := by rw [lst_tl]; rfl
end Go.Proofs.YtbldjamcnohfjaaDoor.Pure
