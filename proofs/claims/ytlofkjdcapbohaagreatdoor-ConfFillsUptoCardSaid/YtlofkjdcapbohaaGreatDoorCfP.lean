/- For the laws of conf: boxes; part, walked. No condition. -/
import Derived.Test.YtlofkjdcapbohaaGreatDoorCfC
import Derived.Test.YtlofkjdcapbohaaGreatDoorPConfKeepsx0
import Derived.Shelf.Strconv.Itoa0
import Derived.Shelf.Strconv.Itoa1
import Derived.Shelf.LaysM
import Derived.Shelf.Strconv.Itoa2
import Derived.Shelf.Strconv.Itoa3
import Derived.Test.YtlofkjdcapbohaaGreatDoorSPlain
import Derived.Lib.AppendIntMem
namespace Go.Proofs.YtlofkjdcapbohaaGreatDoor.PConfKeeps
open Go.RowKit Go.Proofs.YtlofkjdcapbohaaGreatDoorW.PrintWords Go.Proofs.YtlofkjdcapbohaaGreatDoorW.PrintLast Go.Proofs.YtlofkjdcapbohaaGreatDoorW.PrintMore
set_option linter.unusedVariables false
set_option linter.unusedSimpArgs false
/-- boxes of the call's own, the newest first: block, cells, type -/
structure Bs (w W : World) (l : List (Nat × Array Value × Nat)) : Prop where
  blk : ∀ (i : Nat) (p : Nat × Array Value × Nat), l[i]? = some p → W.heap[p.1]? = some (.cells p.2.1 p.2.2 (0, 0))
  B : Below w.heap.size w W
  ge : ∀ (i : Nat) (p : Nat × Array Value × Nat), l[i]? = some p → w.heap.size ≤ p.1
  nd : ∀ (i j : Nat) (p q : Nat × Array Value × Nat), i < j → l[i]? = some p → l[j]? = some q → q.1 < p.1
namespace Bs
variable {w W W1 : World} {l : List (Nat × Array Value × Nat)} {g t : Nat} {cs : Array Value}
theorem nil (w : World) : Bs w w [] := ⟨fun _ _ h => by simp at h, Below.refl _ _, fun _ _ h => by simp at h, fun _ _ _ _ _ h => by simp at h⟩
theorem below (h : Bs w W l) (hb : Below W.heap.size W W1) : Bs w W1 l := ⟨fun i p hp => blk_below (h.blk i p hp) hb, below_step h.B hb, h.ge, h.nd⟩
theorem size (h : Bs w W l) : w.heap.size ≤ W.heap.size := h.B.size
theorem new (h : Bs w W l) (hg : g = W.heap.size) (hc : W1.heap[g]? = some (.cells cs t (0, 0))) (hb : Below W.heap.size W W1) : Bs w W1 ((g, cs, t) :: l) := by
  have h1 := h.below hb
  refine ⟨fun i p hp => ?_, h1.B, fun i p hp => ?_, fun i j p q hij hp hq => ?_⟩
  · cases i with
    | zero => simp at hp; subst hp; exact hc
    | succ i => exact h1.blk i p (by simpa using hp)
  · cases i with
    | zero => simp at hp; subst hp; show w.heap.size ≤ g; rw [hg]; exact h.size
    | succ i => exact h.ge i p (by simpa using hp)
  · cases j with
    | zero => omega
    | succ j =>
      have hq' : l[j]? = some q := by simpa using hq
      cases i with
      | zero => simp at hp; subst hp; show q.1 < g; rw [hg]; exact blk_lt (h.blk j q hq')
      | succ i => exact h.nd i j p q (by omega) (by simpa using hp) hq'
theorem get (h : Bs w W l) (i : Nat) (hi : l[i]? = some (g, cs, t)) : W.heap[g]? = some (.cells cs t (0, 0)) := h.blk i _ hi
theorem low (h : Bs w W l) (i : Nat) (hi : l[i]? = some (g, cs, t)) : w.heap.size ≤ g := h.ge i _ hi
theorem lt (h : Bs w W l) (i : Nat) (hi : l[i]? = some (g, cs, t)) : g < W.heap.size := blk_lt (h.blk i _ hi)
theorem tail {p : Nat × Array Value × Nat} (h : Bs w W (p :: l)) : Bs w W l :=
  ⟨fun i q hq => h.blk (i + 1) q (by simpa using hq), h.B, fun i q hq => h.ge (i + 1) q (by simpa using hq), fun i j q r hij hq hr => h.nd (i + 1) (j + 1) q r (by omega) (by simpa using hq) (by simpa using hr)⟩
theorem put (h : Bs w W l) (i : Nat) (hi : l[i]? = some (g, cs, t)) (j : Nat) (v : Value) : Bs w (W.setCell ⟨g, j, none⟩ v) (l.set i (g, cs.setIfInBounds j v, t)) := by
  have key : ∀ (k : Nat) (p : Nat × Array Value × Nat), (l.set i (g, cs.setIfInBounds j v, t))[k]? = some p → (k = i ∧ p = (g, cs.setIfInBounds j v, t)) ∨ (k ≠ i ∧ l[k]? = some p) := by
    intro k p hp
    by_cases e : i = k
    · subst e
      have hl : i < l.length := (List.getElem?_eq_some_iff.1 hi).1
      rw [List.getElem?_set_self hl] at hp
      injection hp with hp
      exact .inl ⟨rfl, hp.symm⟩
    · rw [List.getElem?_set_ne e] at hp
      exact .inr ⟨fun h_ => e h_.symm, hp⟩
  have hne : ∀ (k : Nat) (p : Nat × Array Value × Nat), k ≠ i → l[k]? = some p → p.1 ≠ g := by
    intro k p hk hp he
    rcases Nat.lt_or_gt_of_ne hk with hlt | hlt
    · have := h.nd k i _ _ hlt hp hi; dsimp only at this; omega
    · have := h.nd i k _ _ hlt hi hp; dsimp only at this; omega
  refine ⟨fun k p hp => ?_, below_set h.B (h.ge i _ hi), fun k p hp => ?_, fun a b p q hab hp hq => ?_⟩
  · rcases key k p hp with ⟨_, rfl⟩ | ⟨hk, hp'⟩
    · exact blk_put (h.blk i _ hi) j v rfl
    · exact blk_far (h.blk k p hp') (hne k p hk hp') v
  · rcases key k p hp with ⟨_, rfl⟩ | ⟨_, hp'⟩
    · exact h.ge _ (g, cs, t) hi
    · exact h.ge k p hp'
  · rcases key a p hp with ⟨rfl, rfl⟩ | ⟨_, hp'⟩ <;> rcases key b q hq with ⟨rfl, rfl⟩ | ⟨_, hq'⟩
    · omega
    · exact h.nd _ _ (g, cs, t) q hab hi hq'
    · exact h.nd _ _ p (g, cs, t) hab hp' hi
    · exact h.nd _ _ p q hab hp' hq'
theorem grown (h : Bs w W l) {row : Option Nat} (hg : W.grownBy W1 row) (hb : Below w.heap.size w W1) (hr : ∀ (i : Nat) (p : Nat × Array Value × Nat), l[i]? = some p → some p.1 ≠ row) : Bs w W1 l :=
  ⟨fun i p hp => blk_grown (h.blk i p hp) hg (hr i p hp), hb, h.ge, h.nd⟩
theorem put' (h : Bs w W l) (i : Nat) (hi : l[i]? = some (g, cs, t)) (j : Nat) (v : Value) {cs' : Array Value} (e : cs.setIfInBounds j v = cs') : Bs w (W.setCell ⟨g, j, none⟩ v) (l.set i (g, cs', t)) ∧ (l.set i (g, cs', t))[i]? = some (g, cs', t) :=
  e ▸ ⟨h.put i hi j v, List.getElem?_set_self (List.getElem?_eq_some_iff.1 hi).1⟩
theorem six {c0 c1 c2 c3 c4 c5 : Value} (h : Bs w W l) (i : Nat) (hi : l[i]? = some (g, #[c0, c1, c2, c3, c4, c5], t)) (v0 v1 v2 v3 v4 v5 : Value) :
    Bs w ((((((W.setCell ⟨g, 0, none⟩ v0).setCell ⟨g, 1, none⟩ v1).setCell ⟨g, 2, none⟩ v2).setCell ⟨g, 3, none⟩ v3).setCell ⟨g, 4, none⟩ v4).setCell ⟨g, 5, none⟩ v5) (l.set i (g, #[v0, v1, v2, v3, v4, v5], t)) := by
  obtain ⟨a0, b0⟩ := h.put' i hi 0 v0 (cs' := #[v0, c1, c2, c3, c4, c5]) rfl
  obtain ⟨a1, b1⟩ := a0.put' i b0 1 v1 (cs' := #[v0, v1, c2, c3, c4, c5]) rfl
  obtain ⟨a2, b2⟩ := a1.put' i b1 2 v2 (cs' := #[v0, v1, v2, c3, c4, c5]) rfl
  obtain ⟨a3, b3⟩ := a2.put' i b2 3 v3 (cs' := #[v0, v1, v2, v3, c4, c5]) rfl
  obtain ⟨a4, b4⟩ := a3.put' i b3 4 v4 (cs' := #[v0, v1, v2, v3, v4, c5]) rfl
  obtain ⟨a5, _⟩ := a4.put' i b4 5 v5 (cs' := #[v0, v1, v2, v3, v4, v5]) rfl
  rw [List.set_set, List.set_set, List.set_set, List.set_set, List.set_set] at a5
  exact a5
theorem three {c0 c1 c2 : Value} (h : Bs w W l) (i : Nat) (hi : l[i]? = some (g, #[c0, c1, c2], t)) (v0 v1 v2 : Value) :
    Bs w (((W.setCell ⟨g, 0, none⟩ v0).setCell ⟨g, 1, none⟩ v1).setCell ⟨g, 2, none⟩ v2) (l.set i (g, #[v0, v1, v2], t)) := by
  obtain ⟨a0, b0⟩ := h.put' i hi 0 v0 (cs' := #[v0, c1, c2]) rfl
  obtain ⟨a1, b1⟩ := a0.put' i b0 1 v1 (cs' := #[v0, v1, c2]) rfl
  obtain ⟨a2, _⟩ := a1.put' i b1 2 v2 (cs' := #[v0, v1, v2]) rfl
  rw [List.set_set, List.set_set] at a2
  exact a2
end Bs

/-- the library's table of powers is laid, below B -/
structure PT (B : Nat) (w : World) : Prop where
  tab : Lib.TabIs Tryz.prog w "internal/strconv.uint64pow10" .u64 Lib.pow10Tab
  lt : 6 < B
  le : B ≤ w.heap.size
theorem PT.move {B : Nat} {w W : World} (h : PT B w) (hb : ∀ k, k < B → W.heap[k]? = w.heap[k]?) (hs : w.heap.size ≤ W.heap.size) : PT B W := by
  have hgn : Tryz.prog.globalNamed "internal/strconv.uint64pow10" = some 6 := by kernel_rfl
  refine ⟨?_, h.lt, Nat.le_trans h.le hs⟩
  have h0 := h.tab
  unfold Lib.TabIs World.var? at h0 ⊢
  rw [hgn] at h0 ⊢
  simp only [Option.bind_some] at h0 ⊢
  rw [hb 6 h.lt]
  exact h0
theorem PT.below {B : Nat} {w W : World} (h : PT B w) (hb : Below w.heap.size w W) : PT B W := h.move (fun k hk => hb.block k (Nat.lt_of_lt_of_le hk h.le)) hb.size
end Go.Proofs.YtlofkjdcapbohaaGreatDoor.PConfKeeps
