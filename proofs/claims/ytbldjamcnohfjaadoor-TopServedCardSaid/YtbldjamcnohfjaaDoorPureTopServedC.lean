/- For TopServed: a right site's paths are paths, and in order. -/
import Derived.Test.YtbldjamcnohfjaaDoorPureTopServedB
import Derived.Sort.Walk0
namespace Go.Proofs.YtbldjamcnohfjaaDoor.Pure
open Go.RowKit Go.Proofs.YtbldjamcnohfjaaDoor.PTopServed Go.Proofs.YtbldjamcnohfjaaDoorW.PrintWords Go.Proofs.YtbldjamcnohfjaaDoorW.PrintLast Go.Proofs.YtbldjamcnohfjaaDoorW.PrintMore
set_option linter.unusedVariables false
set_option linter.unusedSimpArgs false
/-- an output's path, as its bytes -/
def nm (l : List S30) (j : Nat) : List UInt8 := lst (rd_T30 l (j : Int)).f0
theorem bl_lt (a b : ByteArray) : Op.bytesLess a.toList b.toList = decide (lst a < lst b) := by rw [lst_tl, lst_tl]; exact Go.Proofs.bytesLess_eq _ _
/-- what CheckOuts has seen of one output -/
def OkAt (l : List S30) (j : Nat) : Prop := Ev (fun k => ship_isPath.f k (rd_T30 l (j : Int)).f0) true ∧ Good (rd_T30 l (j : Int)).f0 ∧ (0 < j → nm l (j - 1) < nm l j)
theorem prefix_tt (a b : ByteArray) : Tt (fun _ => strings_HasPrefix.f a b) (fun _ => True) := by
  by_cases h : b.size ≤ a.size
  · rw [hpre a b h]; exact Tt.some trivial
  · unfold strings_HasPrefix.f stringslite_HasPrefix.f
    rw [if_neg (by omega)]
    exact Tt.some trivial
theorem co_in (l : List S30) (n i : Int) (ys : List S30) (hys : ys.length ≤ 1000000000000) (p b : ByteArray) (hp : p.size ≤ 1000) {Q : Int → Prop} (h6 : Q 6) (h4 : Q 4) (hnext : Tt (fun k => ship_CheckOuts.l0 k l l n (wrap64 (i + 1))) Q) :
    ∀ d j : Nat, j + d = ys.length → Tt (fun k => ship_CheckOuts.l1 k l l n i ys (ys.length : Int) (j : Int) p b) Q
  | 0, j, h => by
    refine Tt.step (fun k => by rw [ship_CheckOuts.l1, if_neg (by omega)]) ?_
    exact Tt.ite (fun _ => Tt.some h4) (fun _ => hnext)
  | d + 1, j, h => by
    have ih := co_in l n i ys hys p b hp h6 h4 hnext d (j + 1) (by omega)
    rw [← w1 (show j < ys.length by omega) (by omega)] at ih
    refine Tt.step (fun k => by rw [ship_CheckOuts.l1]) ?_
    refine Tt.ite (fun _ => Tt.ite (fun _ => Tt.ite (fun _ => Tt.ite (fun _ => Tt.bind (prefix_tt _ _) (fun _ _ _ => Tt.ite (fun _ => Tt.some h6) (fun _ => ih))) (fun h => ?_)) (fun h => ?_)) (fun h => ?_)) (fun h => ?_)
    all_goals (exfalso; omega)
theorem co_loop (l : List S30) (hl : l.length ≤ 480) : ∀ d i : Nat, i + d = l.length → Tt (fun k => ship_CheckOuts.l0 k l l (l.length : Int) (i : Int)) (fun r => r = 0 → ∀ j : Nat, i ≤ j → j < l.length → OkAt l j)
  | 0, i, h => Tt.step (f := fun _ => some 0) (fun k => by rw [ship_CheckOuts.l0, if_neg (by omega)]) (Tt.some (fun _ j h1 h2 => by omega))
  | d + 1, i, h => by
    have ih := co_loop l hl d (i + 1) (by omega)
    have hin : OkAt l i → Tt (fun k => ship_CheckOuts.j1 k l (i : Int) l (l.length : Int) (i : Int) (rd_T30 l (i : Int)).f0 (rd_T30 l (i : Int)).f1) (fun r => r = 0 → ∀ j : Nat, i ≤ j → j < l.length → OkAt l j) := fun hok => by
      have hn : Tt (fun k => ship_CheckOuts.l0 k l l (l.length : Int) (wrap64 ((i : Int) + 1))) (fun r => r = 0 → ∀ j : Nat, i ≤ j → j < l.length → OkAt l j) := by
        rw [w1 (show i < l.length by omega) (by omega)]
        refine ih.mono (fun r hr h0 j h1 h2 => ?_)
        by_cases e : j = i
        · subst e; exact hok
        · exact hr h0 j (by omega) h2
      refine Tt.step (fun k => by rw [ship_CheckOuts.j1]) ?_
      have hw := w1 (show i < l.length by omega) (by omega)
      refine Tt.ite (fun _ => Tt.ite (fun _ => ?good) (fun h => ?_)) (fun h => ?_)
      case good =>
        refine Tt.bind (g := fun _ => _) (Tt.some (Q := fun r => r = (l.drop ((wrap64 ((i : Int) + 1)) : Int).toNat : List S30)) rfl) ?_
        rintro r _ rfl
        exact co_in l _ _ _ (by rw [List.length_drop]; omega) _ _ (by have := hok.2.1.sz; omega) (fun h => by cases h) (fun h => by cases h) hn (l.drop ((wrap64 ((i : Int) + 1)) : Int).toNat).length 0 (by omega)
      all_goals (exfalso; rw [hw] at h; omega)
    refine Tt.step (fun k => by rw [ship_CheckOuts.l0]) ?_
    refine Tt.ite (fun _ => Tt.ite (fun _ => Tt.ite (fun _ => Tt.bind (path_tt _) (fun a hev ha => Tt.ite (fun hat => ?good) (fun _ => Tt.some (fun h => by cases h)))) (fun h => ?_)) (fun h => ?_)) (fun h => ?_)
    case good =>
      subst hat
      have hg := ha rfl
      by_cases hi : 0 < i
      · rw [w2 hi (by omega)]
        refine Tt.ite (fun _ => Tt.ite (fun _ => Tt.ite (fun _ => Tt.ite (fun hlt => ?_) (fun _ => Tt.some (fun h => by cases h))) (fun h => ?_)) (fun h => ?_)) (fun h => ?_)
        · rw [bl_lt, decide_eq_true_eq] at hlt
          exact hin ⟨hev, hg, fun _ => hlt⟩
        all_goals (exfalso; omega)
      · exact Tt.ite (fun h => absurd h (by omega)) (fun _ => hin ⟨hev, hg, fun h => absurd h hi⟩)
    all_goals (exfalso; omega)
structure Site (l : List S30) : Prop where
  n : l.length ≤ 480
  ok : ∀ j : Nat, j < l.length → OkAt l j
theorem co_tt (l : List S30) : Tt (fun k => ship_CheckOuts.f k l) (fun r => r = 0 → Site l) := by
  unfold ship_CheckOuts.f
  refine Tt.ite (fun _ => Tt.some (fun h => by cases h)) (fun h => (co_loop l (by omega) l.length 0 (by omega)).mono (fun r hr h0 => ⟨by omega, fun j hj => hr h0 j (Nat.zero_le _) hj⟩))
theorem awake_ev : Ev (fun k => mastkeep1_awakeShip.f k) true := by
  have h : Ev (fun k => ship_CheckOuts.f k ([(⟨(⟨#[]⟩ : ByteArray), (⟨#[]⟩ : ByteArray)⟩ : S30)] : List (S30))) 3 := by
    refine Ev.of (k := 8) (ship_CheckOuts.mono _) ?_
    decide +kernel
  unfold mastkeep1_awakeShip.f
  exact Ev.bind h (Ev.now true)
/-! ### In order -/
theorem nm_lt {l : List S30} (h : Site l) {i : Nat} : ∀ d : Nat, i + d + 1 < l.length → nm l i < nm l (i + d + 1)
  | 0, hj => (h.ok (i + 1) hj).2.2 (by omega)
  | d + 1, hj => List.lt_trans (nm_lt h d (by omega)) (by have := (h.ok (i + (d + 1) + 1) hj).2.2 (by omega); rw [show i + (d + 1) + 1 - 1 = i + d + 1 by omega] at this; exact this)
theorem nm_ord {l : List S30} (h : Site l) {i j : Nat} (hij : i < j) (hj : j < l.length) : nm l i < nm l j := by
  have := nm_lt h (i := i) (j - i - 1) (by omega)
  rwa [show i + (j - i - 1) + 1 = j by omega] at this
theorem nm_inj {l : List S30} (h : Site l) {i j : Nat} (hi : i < l.length) (hj : j < l.length) (e : nm l i = nm l j) : i = j := by
  rcases Nat.lt_trichotomy i j with hlt | rfl | hlt
  · have := nm_ord h hlt hj; rw [e] at this; exact absurd this (List.lt_irrefl _)
  · rfl
  · have := nm_ord h hlt hi; rw [e] at this; exact absurd this (List.lt_irrefl _)
theorem geb_eq (l : List S30) (name : ByteArray) (i : Nat) : geb l name i = !decide (nm l i < lst name) := by
  unfold geb; rw [bl_lt]; rfl
theorem sorted_of {l : List S30} (h : Site l) : Sorted l := by
  intro name a b hab hb hg
  rw [geb_eq, Bool.not_eq_true', decide_eq_false_iff_not] at hg ⊢
  intro hlt
  apply hg
  rcases Nat.lt_or_ge a b with hl | hl
  · exact List.lt_trans (nm_ord h hl hb) hlt
  · obtain rfl : a = b := by omega
    exact hlt
end Go.Proofs.YtbldjamcnohfjaaDoor.Pure
