/- For the law RuleRound: boxes of a call's own, and the one box that a pointer was given to. No condition. -/
import Derived.Test.YtilmjckpphlniaaDoorRuE
namespace Go.Proofs.YtilmjckpphlniaaDoor.PRuleRound
open Go.RowKit Go.Proofs.YtilmjckpphlniaaDoorW.PrintWords Go.Proofs.YtilmjckpphlniaaDoorW.PrintLast Go.Proofs.YtilmjckpphlniaaDoorW.PrintMore
set_option linter.unusedVariables false
set_option linter.unusedSimpArgs false
/-- boxes: the newest first; the box br is the only old one that may change -/
structure Bg (w : World) (br : Nat) (W : World) (l : List (Nat × Array Value × Nat)) : Prop where
  blk : ∀ (i : Nat) (p : Nat × Array Value × Nat), l[i]? = some p → W.heap[p.1]? = some (.cells p.2.1 p.2.2 (0, 0))
  G : w.grownBy W (some br)
  ge : ∀ (i : Nat) (p : Nat × Array Value × Nat), l[i]? = some p → w.heap.size ≤ p.1 ∨ p.1 = br
  nd : ∀ (i j : Nat) (p q : Nat × Array Value × Nat), i < j → l[i]? = some p → l[j]? = some q → q.1 < p.1
theorem gw_trans {w W w1 : World} {br : Nat} {r : Option Nat} (h : w.grownBy W (some br)) (k : W.grownBy w1 r) (hr : ∀ i, r = some i → w.heap.size ≤ i ∨ i = br) : w.grownBy w1 (some br) :=
  ⟨k.os.trans h.os, k.tape.trans h.tape, k.output.trans h.output, Nat.le_trans h.size k.size, fun i hi hne => (k.block i (Nat.lt_of_lt_of_le hi h.size) (fun e => by
    rcases hr i e.symm with h_ | h_
    · omega
    · exact hne (by rw [h_]))).trans (h.block i hi hne)⟩
theorem gw_set (w : World) (b i : Nat) (v : Value) : w.grownBy (w.setCell ⟨b, i, none⟩ v) (some b) :=
  ⟨rfl, rfl, rfl, by simp [World.setCell], fun k _ hk => Below.heap_setCell _ _ _ _ (fun e => hk (by simp [e]))⟩
namespace Bg
variable {w W W1 : World} {br : Nat} {l : List (Nat × Array Value × Nat)} {g t : Nat} {cs : Array Value}
theorem start (h : w.heap[br]? = some (.cells cs t (0, 0))) : Bg w br w [(br, cs, t)] := ⟨fun i p hp => by
    cases i with
    | zero => simp at hp; subst hp; exact h
    | succ i => simp at hp, World.grownBy.refl _ _, fun i p hp => by
    cases i with
    | zero => simp at hp; subst hp; exact .inr rfl
    | succ i => simp at hp, fun i j p q hij hp hq => by
    cases j with
    | zero => omega
    | succ j => simp at hq⟩
theorem below (h : Bg w br W l) (hb : Below W.heap.size W W1) : Bg w br W1 l := ⟨fun i p hp => blk_below (h.blk i p hp) hb, gw_trans h.G (grown_of_below hb none) (fun _ e => by cases e), h.ge, h.nd⟩
theorem size (h : Bg w br W l) : w.heap.size ≤ W.heap.size := h.G.size
theorem get (h : Bg w br W l) (i : Nat) (hi : l[i]? = some (g, cs, t)) : W.heap[g]? = some (.cells cs t (0, 0)) := h.blk i _ hi
theorem low (h : Bg w br W l) (i : Nat) (hi : l[i]? = some (g, cs, t)) : w.heap.size ≤ g ∨ g = br := h.ge i _ hi
theorem lt (h : Bg w br W l) (i : Nat) (hi : l[i]? = some (g, cs, t)) : g < W.heap.size := blk_lt (h.blk i _ hi)
theorem new (h : Bg w br W l) (hg : g = W.heap.size) (hc : W1.heap[g]? = some (.cells cs t (0, 0))) (hb : Below W.heap.size W W1) : Bg w br W1 ((g, cs, t) :: l) := by
  have h1 := h.below hb
  refine ⟨fun i p hp => ?_, h1.G, fun i p hp => ?_, fun i j p q hij hp hq => ?_⟩
  · cases i with
    | zero => simp at hp; subst hp; exact hc
    | succ i => exact h1.blk i p (by simpa using hp)
  · cases i with
    | zero => simp at hp; subst hp; exact .inl (by show w.heap.size ≤ g; rw [hg]; exact h.size)
    | succ i => exact h.ge i p (by simpa using hp)
  · cases j with
    | zero => omega
    | succ j =>
      have hq' : l[j]? = some q := by simpa using hq
      cases i with
      | zero => simp at hp; subst hp; show q.1 < g; rw [hg]; exact blk_lt (h.blk j q hq')
      | succ i => exact h.nd i j p q (by omega) (by simpa using hp) hq'
theorem tail {p : Nat × Array Value × Nat} (h : Bg w br W (p :: l)) : Bg w br W l :=
  ⟨fun i q hq => h.blk (i + 1) q (by simpa using hq), h.G, fun i q hq => h.ge (i + 1) q (by simpa using hq), fun i j q r hij hq hr => h.nd (i + 1) (j + 1) q r (by omega) (by simpa using hq) (by simpa using hr)⟩
/-- one block changes, others stay: that block is a box of the list -/
theorem move (h : Bg w br W l) (i : Nat) (hi : l[i]? = some (g, cs, t)) {cs' : Array Value} (hg : W.grownBy W1 (some g)) (hc : W1.heap[g]? = some (.cells cs' t (0, 0))) : Bg w br W1 (l.set i (g, cs', t)) := by
  have key : ∀ (k : Nat) (p : Nat × Array Value × Nat), (l.set i (g, cs', t))[k]? = some p → (k = i ∧ p = (g, cs', t)) ∨ (k ≠ i ∧ l[k]? = some p) := by
    intro k p hp
    by_cases e : i = k
    · subst e
      have hl : i < l.length := (List.getElem?_eq_some_iff.1 hi).1
      rw [List.getElem?_set_self hl] at hp
      injection hp with hp
      exact .inl ⟨rfl, hp.symm⟩
    · rw [List.getElem?_set_ne e] at hp
      exact .inr ⟨fun h_ => e h_.symm, hp⟩
  have hne : ∀ (k : Nat) (p : Nat × Array Value × Nat), k ≠ i → l[k]? = some p → p.1 ≠ g := by
    intro k p hk hp he
    rcases Nat.lt_or_gt_of_ne hk with hlt | hlt
    · have := h.nd k i _ _ hlt hp hi; dsimp only at this; omega
    · have := h.nd i k _ _ hlt hi hp; dsimp only at this; omega
  refine ⟨fun k p hp => ?_, gw_trans h.G hg (fun j e => by injection e with e; subst e; exact h.ge i _ hi), fun k p hp => ?_, fun a b p q hab hp hq => ?_⟩
  · rcases key k p hp with ⟨_, rfl⟩ | ⟨hk, hp'⟩
    · exact hc
    · exact blk_grown (h.blk k p hp') hg (fun e => by injection e with e; exact hne k p hk hp' e)
  · rcases key k p hp with ⟨_, rfl⟩ | ⟨_, hp'⟩
    · exact h.ge _ (g, cs, t) hi
    · exact h.ge k p hp'
  · rcases key a p hp with ⟨rfl, rfl⟩ | ⟨_, hp'⟩ <;> rcases key b q hq with ⟨rfl, rfl⟩ | ⟨_, hq'⟩
    · omega
    · exact h.nd _ _ (g, cs, t) q hab hi hq'
    · exact h.nd _ _ p (g, cs, t) hab hp' hi
    · exact h.nd _ _ p q hab hp' hq'
theorem put (h : Bg w br W l) (i : Nat) (hi : l[i]? = some (g, cs, t)) (j : Nat) (v : Value) {cs' : Array Value} (e : cs.setIfInBounds j v = cs') : Bg w br (W.setCell ⟨g, j, none⟩ v) (l.set i (g, cs', t)) :=
  h.move i hi (gw_set W g j v) (blk_put (h.blk i _ hi) j v e)
theorem at_ {i : Nat} (hi : l[i]? = some (g, cs, t)) {cs' : Array Value} : (l.set i (g, cs', t))[i]? = some (g, cs', t) := List.getElem?_set_self (List.getElem?_eq_some_iff.1 hi).1
theorem row (h : Bg w br W l) {r : Option Nat} (hg : W.grownBy W1 r) (hr : ∀ i, r = some i → w.heap.size ≤ i ∨ i = br) (hn : ∀ (i : Nat) (p : Nat × Array Value × Nat), l[i]? = some p → some p.1 ≠ r) : Bg w br W1 l :=
  ⟨fun i p hp => blk_grown (h.blk i p hp) hg (hn i p hp), gw_trans h.G hg hr, h.ge, h.nd⟩
theorem put' (h : Bg w br W l) (i : Nat) (hi : l[i]? = some (g, cs, t)) (j : Nat) (v : Value) {cs' : Array Value} (e : cs.setIfInBounds j v = cs') : Bg w br (W.setCell ⟨g, j, none⟩ v) (l.set i (g, cs', t)) ∧ (l.set i (g, cs', t))[i]? = some (g, cs', t) := ⟨h.put i hi j v e, at_ hi⟩
theorem five {c0 c1 c2 c3 c4 : Value} (h : Bg w br W l) (i : Nat) (hi : l[i]? = some (g, #[c0, c1, c2, c3, c4], t)) (v0 v1 v2 v3 v4 : Value) :
    Bg w br (((((W.setCell ⟨g, 0, none⟩ v0).setCell ⟨g, 1, none⟩ v1).setCell ⟨g, 2, none⟩ v2).setCell ⟨g, 3, none⟩ v3).setCell ⟨g, 4, none⟩ v4) (l.set i (g, #[v0, v1, v2, v3, v4], t)) := by
  obtain ⟨a0, b0⟩ := h.put' i hi 0 v0 (cs' := #[v0, c1, c2, c3, c4]) rfl
  obtain ⟨a1, b1⟩ := a0.put' i b0 1 v1 (cs' := #[v0, v1, c2, c3, c4]) rfl
  obtain ⟨a2, b2⟩ := a1.put' i b1 2 v2 (cs' := #[v0, v1, v2, c3, c4]) rfl
  obtain ⟨a3, b3⟩ := a2.put' i b2 3 v3 (cs' := #[v0, v1, v2, v3, c4]) rfl
  obtain ⟨a4, _⟩ := a3.put' i b3 4 v4 (cs' := #[v0, v1, v2, v3, v4]) rfl
  rw [List.set_set, List.set_set, List.set_set, List.set_set] at a4
  exact a4
end Bg
/-- a rule's reader at a place of the text, in its box -/
structure Ru (w0 : World) (g : Nat) (s : ByteArray) (i : Int) (w : World) : Prop where
  S : w.heap[g]? = some (.cells #[.string s, .int .i64 i, .int .i64 0, .bool false, .bool false] 52 (0, 0))
  ge : w0.heap.size ≤ g
  B : Below w0.heap.size w0 w
section
variable {w0 w W : World} {g : Nat} {s : ByteArray} {i j : Int} {l : List (Nat × Array Value × Nat)}
theorem Ru.of (h : Ru w0 g s i w) (hI : IsS52 w0 W g s j 0 false false) (hB : Below w0.heap.size w0 W) (hK : KeepBut w W g none) : Ru w0 g s j W ∧ w.grownBy W (some g) :=
  ⟨⟨hI.1, hI.2, hB⟩, ⟨hB.os.trans h.B.os.symm, hB.tape.trans h.B.tape.symm, hB.output.trans h.B.output.symm, hK.1, fun k hk hne => hK.2 k hk (fun e => hne (by rw [e])) (by simp)⟩⟩
theorem Bg.ru (h : Bg w g W l) (hr : Ru w0 g s i w) (k : Nat) (hi : l[k]? = some (g, #[.string s, .int .i64 j, .int .i64 0, .bool false, .bool false], 52)) : Ru w0 g s j W :=
  ⟨h.get k hi, hr.ge, hr.B.grown h.G hr.B.size (fun k e => by injection e with e; subst e; exact hr.ge)⟩
theorem take_calls {r : List UInt8} (sg : ByteArray) (n : Nat) (hsg : sg.size ≤ 100) (h : At s n (sg.data.toList ++ r)) (hi : i = (n : Int)) (hr : Ru w0 g s i w) :
    Calls Tryd.prog 18 #[.pointer (some ⟨g, 0, none⟩), .string sg] w fun e w' => e = .returned (.tuple #[]) ∧ ∃ j : Int, j = ((n + sg.size : Nat) : Int) ∧ Ru w0 g s j w' ∧ w.grownBy w' (some g) := by
  subst hi
  refine (lang_ruler_take.calls 300 g s n 0 false false sg _ _ _ _ _ w0 w ⟨hr.S, hr.ge⟩ hr.B (take_at sg hsg h)).mono ?_
  rintro e w' ⟨rfl, hI, hB, hK⟩
  exact ⟨rfl, _, rfl, hr.of hI hB hK⟩
theorem is_calls {l : List UInt8} (sg : ByteArray) (n : Nat) (b : Bool) (h : At s n l) (hb : sg.data.toList.isPrefixOf l = b) (hi : i = (n : Int)) (hr : Ru w0 g s i w) :
    Calls Tryd.prog 17 #[.pointer (some ⟨g, 0, none⟩), .string sg] w fun e w' => e = .returned (.bool b) ∧ Ru w0 g s i w' ∧ w.grownBy w' (some g) := by
  subst hi
  subst hb
  refine (lang_ruler_is.calls g s n 0 false false sg _ _ _ _ _ _ w0 w ⟨hr.S, hr.ge⟩ hr.B (is_at h sg)).mono ?_
  rintro e w' ⟨rfl, hI, hB, hK⟩
  exact ⟨rfl, hr.of hI hB hK⟩
theorem yes_calls {r : List UInt8} (sg : ByteArray) (n : Nat) (hsg : sg.size ≤ 100) (h2 : 2 ≤ sg.size) (h : At s n (sg.data.toList ++ r)) (hi : i = (n : Int)) (hr : Ru w0 g s i w) :
    Calls Tryd.prog 55 #[.pointer (some ⟨g, 0, none⟩), .string sg] w fun e w' => e = .returned (.bool true) ∧ ∃ j : Int, j = ((n + sg.size : Nat) : Int) ∧ Ru w0 g s j w' ∧ w.grownBy w' (some g) := by
  subst hi
  refine (lang_ruler_more.calls 300 g s n 0 false false sg _ _ _ _ _ _ w0 w ⟨hr.S, hr.ge⟩ hr.B (more_yes sg hsg h2 h)).mono ?_
  rintro e w' ⟨rfl, hI, hB, hK⟩
  exact ⟨rfl, _, rfl, hr.of hI hB hK⟩
theorem no_calls {l : List UInt8} (sg : ByteArray) (n : Nat) (h2 : 2 ≤ sg.size) (h : At s n l) (hno : (sg.data.toList.take 2).isPrefixOf l = false) (hi : i = (n : Int)) (hr : Ru w0 g s i w) :
    Calls Tryd.prog 55 #[.pointer (some ⟨g, 0, none⟩), .string sg] w fun e w' => e = .returned (.bool false) ∧ Ru w0 g s i w' ∧ w.grownBy w' (some g) := by
  subst hi
  refine (lang_ruler_more.calls 300 g s n 0 false false sg _ _ _ _ _ _ w0 w ⟨hr.S, hr.ge⟩ hr.B (more_no sg h2 h hno)).mono ?_
  rintro e w' ⟨rfl, hI, hB, hK⟩
  exact ⟨rfl, hr.of hI hB hK⟩
theorem close_calls {r : List UInt8} (n : Nat) (h : At s n (41 :: r)) (hi : i = (n : Int)) (hr : Ru w0 g s i w) :
    Calls Tryd.prog 82 #[.pointer (some ⟨g, 0, none⟩)] w fun e w' => e = .returned (.tuple #[]) ∧ ∃ j : Int, j = ((n + 1 : Nat) : Int) ∧ Ru w0 g s j w' ∧ w.grownBy w' (some g) := by
  subst hi
  refine (lang_ruler_close.calls 301 g s n 0 false false _ _ _ _ _ w0 w ⟨hr.S, hr.ge⟩ hr.B (close_at h)).mono ?_
  rintro e w' ⟨rfl, hI, hB, hK⟩
  exact ⟨rfl, _, rfl, hr.of hI hB hK⟩
theorem number_calls {r : List UInt8} (n : Nat) (x : Int) (h0 : 0 ≤ x) (h1 : x ≤ 1000000000) (h : At s n (Lib.itoa x ++ r)) (hd : NoDig r) (hi : i = (n : Int)) (hr : Ru w0 g s i w) :
    Calls Tryd.prog 92 #[.pointer (some ⟨g, 0, none⟩)] w fun e w' => e = .returned (.int .i64 x) ∧ ∃ j : Int, j = ((n + (Lib.itoa x).length : Nat) : Int) ∧ Ru w0 g s j w' ∧ w.grownBy w' (some g) := by
  subst hi
  refine (lang_ruler_number.calls 300 g s n 0 false false _ _ _ _ _ _ w0 w ⟨hr.S, hr.ge⟩ hr.B (number_at x h0 h1 h hd)).mono ?_
  rintro e w' ⟨rfl, hI, hB, hK⟩
  exact ⟨rfl, _, rfl, hr.of hI hB hK⟩
end
end Go.Proofs.YtilmjckpphlniaaDoor.PRuleRound
