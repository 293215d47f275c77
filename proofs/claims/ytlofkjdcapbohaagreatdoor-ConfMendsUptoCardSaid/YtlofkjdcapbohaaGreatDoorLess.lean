import Derived.WalkKit
import Derived.Deep.Draws
namespace Go.Proofs.YtlofkjdcapbohaaGreatDoor.Less
open Go
set_option linter.unusedVariables false
set_option linter.unusedSimpArgs false
theorem total : ∀ x y : List UInt8, (Op.bytesLess x y || x == y) = !Op.bytesLess y x
 | [], [] => by simp [Op.bytesLess]
 | _ :: _, [] => by simp [Op.bytesLess]
 | [], _ :: _ => by simp [Op.bytesLess]
 | a :: x, b :: y => by
  have ih := total x y
  rw [Op.bytesLess, Op.bytesLess]
  rcases Nat.lt_trichotomy a.toNat b.toNat with h | h | h
  ·have h1 : a < b := UInt8.lt_iff_toNat_lt.2 h
   have h2 : ¬ b < a := fun h' => by have := UInt8.lt_iff_toNat_lt.1 h'; omega
   have h3 : (b == a) = false := beq_eq_false_iff_ne.2 (fun e => by subst e; omega)
   simp [h1, h2, h3]
  ·have h1 : a = b := UInt8.toNat_inj.1 h
   subst h1
   have h2 : ¬ a < a := fun h' => by have := UInt8.lt_iff_toNat_lt.1 h'; omega
   have e1 : decide (a < a) = false := decide_eq_false h2
   have e2 : (a == a) = true := beq_iff_eq.2 rfl
   have e3 : (a :: x == a :: y) = (x == y) := by
    show (a == a && x == y) = _
    rw [e2, Bool.true_and]
   rw [e1, e2, e3, Bool.false_or, Bool.true_and, Bool.false_or, Bool.true_and]
   exact ih
  ·have h1 : b < a := UInt8.lt_iff_toNat_lt.2 h
   have h2 : ¬ a < b := fun h' => by have := UInt8.lt_iff_toNat_lt.1 h'; omega
   have h3 : ¬ a = b := fun e => by subst e; omega
   simp [h1, h2, h3]
theorem leq (t : TypeId) (a b : ByteArray) : binOp .leq t (.string a) (.string b) = pure (.bool (!Op.bytesLess b.toList a.toList)) := by
 rw [← total]
 simp [binOp, Op.stringOp]
theorem geq (t : TypeId) (a b : ByteArray) : binOp .geq t (.string a) (.string b) = pure (.bool (!Op.bytesLess a.toList b.toList)) := by simp [binOp, Op.stringOp]
end Go.Proofs.YtlofkjdcapbohaaGreatDoor.Less
