/- For the law RuleRound: what is written of a test, and which tests are right. No condition. -/
import Derived.Test.YtilmjckpphlniaaDoorRuA
import Derived.Lib.ItoaLen
import Derived.Test.YtilmjckpphlniaaDoorSItoa
import Derived.Lib.AppendIntMem
namespace Go.Proofs.YtilmjckpphlniaaDoor.PRuleRound
open Go.RowKit Go.Proofs.YtilmjckpphlniaaDoorW.PrintWords Go.Proofs.YtilmjckpphlniaaDoorW.PrintLast Go.Proofs.YtilmjckpphlniaaDoorW.PrintMore
set_option linter.unusedVariables false
set_option linter.unusedSimpArgs false
/-- what is written of a Within -/
def wt (t : S47) : List UInt8 := (([110] ++ (if t.f1 = 0 then [] else 37 :: Lib.itoa t.f1)) ++ (61 :: Lib.itoa t.f2)) ++ (if t.f3 = t.f2 then [] else 46 :: 46 :: Lib.itoa t.f3)
/-- with brackets around a Some -/
def kb (f : S47 → List UInt8) (k : S47) : List UInt8 := if k.f0 = 3 then [40] ++ f k ++ [41] else f k
abbrev sAnd : List UInt8 := [32, 38, 32]
abbrev sOr : List UInt8 := [32, 124, 32]
/-- what is written of a test -/
def tx : Nat → S47 → List UInt8
  | 0, _ => []
  | n + 1, t => if t.f0 = 2 then Lib.join (t.f4.map (kb (tx n))) sAnd else if t.f0 = 3 then Lib.join (t.f4.map (kb (tx n))) sOr else if t.f0 = 4 then ([33, 40] ++ Lib.join (t.f4.map (kb (tx n))) sOr) ++ [41] else wt t
/-- how many tests -/
def cn : Nat → S47 → Nat
  | 0, _ => 1
  | n + 1, t => 1 + (t.f4.map (cn n)).sum
/-- a right test -/
def OkT : Nat → S47 → Prop
  | 0, _ => False
  | n + 1, t => (∀ k ∈ t.f4, OkT n k) ∧ (t.f4.length ≤ 20 ∧ cn (n + 1) t ≤ 20) ∧ ((t.f0 = 1 ∧ t.f4 = [] ∧ (t.f1 = 0 ∨ 2 ≤ t.f1 ∧ t.f1 ≤ 1000000) ∧ 0 ≤ t.f2 ∧ t.f2 ≤ t.f3 ∧ t.f3 ≤ 1000000000) ∨ ((t.f0 = 2 ∨ t.f0 = 3) ∧ 2 ≤ t.f4.length ∧ t.f1 = 0 ∧ t.f2 = 0 ∧ t.f3 = 0 ∧ ∀ k ∈ t.f4, k.f0 ≠ t.f0) ∨ (t.f0 = 4 ∧ 1 ≤ t.f4.length ∧ t.f1 = 0 ∧ t.f2 = 0 ∧ t.f3 = 0))
/-- at most so long -/
def tl (_ : Nat) : Nat := 2200
theorem itoa_len (n : Int) (h0 : 0 ≤ n) (h1 : n ≤ 1000000000) : (Lib.itoa n).length ≤ 21 := Lib.itoa_length_le n (by omega) (by omega)
theorem join_cons2 (x y : List UInt8) (l : List (List UInt8)) (sep : List UInt8) : Lib.join (x :: y :: l) sep = x ++ (sep ++ Lib.join (y :: l) sep) := by
  unfold Lib.join; simp [List.intercalate, List.intersperse]
theorem join_len (sep : List UInt8) (m : Nat) (hs : sep.length ≤ 3) : ∀ l : List (List UInt8), (∀ x ∈ l, x.length ≤ m) → (Lib.join l sep).length ≤ l.length * (m + 3)
  | [], _ => by simp [Lib.join]
  | [x], h => by have := h x (by simp); rw [Lib.join_one, List.length_singleton]; omega
  | x :: y :: l, h => by
    have h1 := h x (by simp)
    have h2 := join_len sep m hs (y :: l) (fun z hz => h z (by simp [hz]))
    rw [join_cons2, List.length_append, List.length_append]
    have h3 : (x :: y :: l).length * (m + 3) = (m + 3) + (y :: l).length * (m + 3) := by rw [List.length_cons, Nat.add_mul]; omega
    omega
theorem kb_len {f : S47 → List UInt8} {k : S47} {m : Nat} (h : (f k).length ≤ m) : (kb f k).length ≤ m + 2 := by
  unfold kb
  split
  · simp; omega
  · omega
theorem wt_len {t : S47} (h1 : t.f1 = 0 ∨ 2 ≤ t.f1 ∧ t.f1 ≤ 1000000) (h2 : 0 ≤ t.f2) (h3 : t.f2 ≤ t.f3) (h4 : t.f3 ≤ 1000000000) : (wt t).length ≤ 100 := by
  have a2 := itoa_len t.f2 (by omega) (by omega)
  have a3 := itoa_len t.f3 (by omega) (by omega)
  have a1 := itoa_len t.f1 (by omega) (by omega)
  unfold wt
  split <;> split <;> simp <;> omega
theorem kids_len {n : Nat} {t : S47} {sep : List UInt8} (hs : sep.length ≤ 3) (h : ∀ k ∈ t.f4, (tx n k).length ≤ tl n) (hl : t.f4.length ≤ 20) : (Lib.join (t.f4.map (kb (tx n))) sep).length ≤ 20 * (tl n + 5) := by
  have h1 := join_len sep (tl n + 2) hs (t.f4.map (kb (tx n))) (fun x hx => by
    obtain ⟨k, hk, rfl⟩ := List.mem_map.1 hx
    exact kb_len (h k hk))
  rw [List.length_map] at h1
  have h2 : t.f4.length * (tl n + 2 + 3) ≤ 20 * (tl n + 5) := Nat.mul_le_mul hl (by omega)
  omega
theorem join_sum (f : S47 → List UInt8) (sep : List UInt8) (hs : sep.length ≤ 3) (c : S47 → Nat) : ∀ l : List S47, (∀ k ∈ l, (f k).length ≤ 110 * c k + 2) → (Lib.join (l.map f) sep).length ≤ 110 * (l.map c).sum + 5 * l.length
  | [], _ => by simp [Lib.join]
  | [x], h => by have := h x (by simp); rw [List.map_cons, List.map_nil, Lib.join_one]; simp; omega
  | x :: y :: l, h => by
    have h1 := h x (by simp)
    have h2 := join_sum f sep hs c (y :: l) (fun z hz => h z (by simp [hz]))
    rw [List.map_cons] at h2
    rw [List.map_cons, List.map_cons, join_cons2, List.length_append, List.length_append]
    simp only [List.map_cons, List.sum_cons, List.length_cons] at h2 ⊢
    omega
theorem tx_sum : ∀ (n : Nat) (t : S47), OkT n t → (tx n t).length ≤ 110 * cn n t
  | 0, _, h => h.elim
  | n + 1, t, h => by
    obtain ⟨h1, ⟨h2, _⟩, h3⟩ := h
    have hk : ∀ k ∈ t.f4, (kb (tx n) k).length ≤ 110 * cn n k + 2 := fun k hk => kb_len (tx_sum n k (h1 k hk))
    have ka := join_sum (kb (tx n)) sAnd (by decide) (cn n) t.f4 hk
    have ko := join_sum (kb (tx n)) sOr (by decide) (cn n) t.f4 hk
    rw [tx, cn]
    rcases h3 with ⟨h0, _, a, b, c, d⟩ | ⟨h0 | h0, _⟩ | ⟨h0, _⟩
    · have := wt_len a b c d
      rw [if_neg (by omega), if_neg (by omega), if_neg (by omega)]
      omega
    · rw [if_pos h0]; omega
    · rw [if_neg (by omega), if_pos h0]; omega
    · rw [if_neg (by omega), if_neg (by omega), if_pos h0]
      simp only [List.length_append, List.length_cons, List.length_nil]
      omega
theorem tx_len (n : Nat) (t : S47) (h : OkT n t) : (tx n t).length ≤ tl n := by
  have h1 := tx_sum n t h
  cases n with
  | zero => exact h.elim
  | succ n =>
    have h2 := h.2.1.2
    unfold tl
    omega
theorem tl_small {n : Nat} (h : n ≤ 12) : tl n ≤ 1000000000000 := by unfold tl; omega
/-- a text's string -/
abbrev sb (l : List UInt8) : ByteArray := ⟨l.toArray⟩
/-- the library's table of powers is laid, below B -/
structure PT (B : Nat) (w : World) : Prop where
  tab : Lib.TabIs Tryd.prog w "internal/strconv.uint64pow10" .u64 Lib.pow10Tab
  lt : 1 < B
  le : B ≤ w.heap.size
theorem PT.move {B : Nat} {w W : World} (h : PT B w) (hb : ∀ k, k < B → W.heap[k]? = w.heap[k]?) (hs : w.heap.size ≤ W.heap.size) : PT B W := by
  have hgn : Tryd.prog.globalNamed "internal/strconv.uint64pow10" = some 1 := by kernel_rfl
  refine ⟨?_, h.lt, Nat.le_trans h.le hs⟩
  have h0 := h.tab
  unfold Lib.TabIs World.var? at h0 ⊢
  rw [hgn] at h0 ⊢
  simp only [Option.bind_some] at h0 ⊢
  rw [hb 1 h.lt]
  exact h0
theorem PT.below {B : Nat} {w W : World} (h : PT B w) (hb : Below w.heap.size w W) : PT B W := h.move (fun k hk => hb.block k (Nat.lt_of_lt_of_le hk h.le)) hb.size
end Go.Proofs.YtilmjckpphlniaaDoor.PRuleRound
