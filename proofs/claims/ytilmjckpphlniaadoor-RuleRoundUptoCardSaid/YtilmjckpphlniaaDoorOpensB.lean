/- Data of any plain shape that came in and is of bulk at most B reads as a Lean value of the printed kind, no row and no string of it longer than B; no condition. -/
import Derived.Test.YtilmjckpphlniaaDoorOpens
import Derived.Test.YtilmjckpphlniaaDoorBulk
namespace Go.Proofs.YtilmjckpphlniaaDoor.OB
open Go.RowKit Go.Proofs.YtilmjckpphlniaaDoorW.PrintWords Go.Proofs.YtilmjckpphlniaaDoor
open Go.Proofs.YtilmjckpphlniaaDoorO (choose_list)
set_option linter.unusedVariables false
variable {P : Program} {B : Nat}

/-- Whatever reads as data of type t (with at most n steps) is a value of the kind d, and well formed. -/
def Opens {α : Type} (B : Nat) (P : Program) (d : Kd α) (wf : α → Prop) (t : TypeId) (n : Nat) : Prop :=
  ∀ (H : Type) (enc : TypeId × Value → H) (w : World) (base : Nat) (spare : Nat → Bool) (held : Bool) (fuel : Nat) (cs : List Value) (x : DataW H × List MemPlace), fuel ≤ n →
    DataW.trod enc P w base spare held fuel t cs = some x → Rows.uptoBulk x.1 ≤ B → ∃ y : α, d.K w y cs ∧ wf y
theorem Opens.mono {α : Type} {d : Kd α} {wf : α → Prop} {t : TypeId} {n m : Nat} (h : Opens B P d wf t n) (hm : m ≤ n) : Opens B P d wf t m :=
  fun H enc w base spare held fuel cs x hf => h H enc w base spare held fuel cs x (Nat.le_trans hf hm)
theorem opens_zero {α : Type} (d : Kd α) (wf : α → Prop) (t : TypeId) : Opens B P d wf t 0 := by
  intro H enc w base spare held fuel cs x hf h
  obtain rfl : fuel = 0 := by omega
  simp [DataW.trod] at h
def wfInt (k : IntKind) (x : Int) : Prop := (Lit.int k x).wf = true
def wfSl {α : Type} (B : Nat) (wf : α → Prop) (xs : List α) : Prop := xs.length ≤ B ∧ ∀ y ∈ xs, wf y
theorem opens_int {t : TypeId} {k : IntKind} (ht : P.underlying t = some (.int k)) (n : Nat) : Opens B P (Kd.int k) (wfInt k) t n := by
  intro H enc w base spare held fuel cs x _ h _
  obtain ⟨i, hc, _, hw⟩ := DataW.trod_int ht h
  exact ⟨i, hc, hw⟩
theorem opens_slice {α : Type} {d : Kd α} {wf : α → Prop} {t e : Nat} {n : Nat} (ht : P.underlying t = some (.slice e)) (hc : P.cellsOf e = d.sz) (h : Opens B P d wf e n) :
    Opens B P (Kd.slice e d) (wfSl B wf) t (n + 1) := by
  intro H enc w base spare held fuel cs x hf hx hw
  rcases DataW.trod_slice ht hx with ⟨rfl, rfl⟩ | ⟨a, len, cap, elems, rest, m, rfl, rfl, rfl, hbl, hlc, hcm, hel, he, _, _⟩
  · exact ⟨[], ⟨none, 0, rfl, Nat.le_refl _, rfl, by simp, fun h0 => absurd h0 (by simp)⟩, by simp, by simp⟩
  · simp only [Rows.uptoBulk] at hw
    have hlen : ∀ l : List (DataW H), l.length ≤ Rows.uptoBulkAll l := fun l => by
      induction l with
      | nil => exact Nat.zero_le _
      | cons a l ih => rw [Rows.uptoBulkAll, List.length_cons]; have := Bulk.bulk_pos a; omega
    have hpt : ∀ i, i < len → ∃ y : α, (∃ c, c.length = d.sz ∧ d.K w y c ∧ ∀ j u, c[j]? = some u → w.cell? (a.add (i * d.sz + j)) = some u) ∧ wf y := by
      intro i hi
      have hi2 : i < elems.length := by omega
      have h1 := he i hi
      rw [List.getElem?_eq_getElem hi2] at h1
      obtain ⟨c, hcc, htr⟩ := Option.bind_eq_some_iff.1 h1
      obtain ⟨_, hcl, hcell⟩ := World.cells?_some hcc
      obtain ⟨y, hy, hyw⟩ := h H enc w base spare held m c _ (by omega) htr (Nat.le_trans (Bulk.bulk_mem _ _ (List.mem_map_of_mem (f := (·.1)) (List.getElem_mem hi2))) (by omega))
      refine ⟨y, ⟨c, by rw [hcl, hc], hy, fun j u hu => ?_⟩, hyw⟩
      have hj : j < P.cellsOf e := by
        rcases Nat.lt_or_ge j c.length with hj | hj
        · omega
        · rw [List.getElem?_eq_none hj] at hu; cases hu
      have h2 := hcell j hj
      rw [hu, hc, Addr.add_add] at h2
      exact h2
    obtain ⟨ys, hyl, hys⟩ := choose_list _ len hpt
    refine ⟨ys, ⟨some a, cap, by rw [hyl], by omega, rfl, by unfold maxLen at hcm; omega, fun _ => ⟨a, rfl, fun j p hp => (hys j p hp).1⟩⟩, ?_, fun y hy => ?_⟩
    · rw [hyl, ← hel]
      have h2 := hlen (elems.map (·.1))
      rw [List.length_map] at h2
      omega
    · obtain ⟨i, hi⟩ := List.mem_iff_getElem?.1 hy
      exact (hys i y hi).2
/-- The fields of a struct, from place off on. -/
def OpensF {α : Type} (B : Nat) (P : Program) (d : Kd α) (wf : α → Prop) (fs : List Field) (off n : Nat) : Prop :=
  ∀ (H : Type) (enc : TypeId × Value → H) (w : World) (base : Nat) (spare : Nat → Bool) (held : Bool) (fuel : Nat) (cs : List Value) (xs : List (DataW H × List MemPlace)), fuel ≤ n → xs.length = fs.length →
    (∀ (i : Nat) (f : Field), fs[i]? = some f → DataW.trod enc P w base spare held fuel f.type ((cs.drop f.offset).take (P.cellsOf f.type)) = xs[i]?) →
    Rows.uptoBulkAll (xs.map (·.1)) ≤ B → ∃ y : α, d.K w y ((cs.drop off).take d.sz) ∧ wf y
theorem opensF_one {α : Type} {d : Kd α} {wf : α → Prop} {f : Field} {off n : Nat} (h : Opens B P d wf f.type n) (ho : f.offset = off) (hc : P.cellsOf f.type = d.sz) : OpensF B P d wf [f] off n := by
  intro H enc w base spare held fuel cs xs hf hl hx hw
  obtain ⟨x, rfl⟩ : ∃ x, xs = [x] := by
    match xs, hl with
    | [x], _ => exact ⟨x, rfl⟩
  have h1 := hx 0 f rfl
  rw [ho, hc] at h1
  exact h H enc w base spare held fuel _ x hf h1 (by simpa [Rows.uptoBulkAll] using hw)
theorem opensF_cons {α β : Type} {a : Kd α} {b : Kd β} {wa : α → Prop} {wb : β → Prop} {f : Field} {fs : List Field} {off off2 n : Nat} (h : Opens B P a wa f.type n) (hs : OpensF B P b wb fs off2 n) (ho : f.offset = off) (hc : P.cellsOf f.type = a.sz) (ho2 : off2 = off + a.sz) :
    OpensF B P (Kd.pair a b) (fun p => wa p.1 ∧ wb p.2) (f :: fs) off n := by
  intro H enc w base spare held fuel cs xs hf hl hx hw
  obtain ⟨x, xs', rfl⟩ : ∃ x xs', xs = x :: xs' := by
    match xs, hl with
    | x :: xs', _ => exact ⟨x, xs', rfl⟩
  have h1 := hx 0 f rfl
  rw [ho, hc] at h1
  obtain ⟨y, hy, hyw⟩ := h H enc w base spare held fuel _ x hf h1 (by simp only [List.map_cons, Rows.uptoBulkAll] at hw; omega)
  obtain ⟨z, hz, hzw⟩ := hs H enc w base spare held fuel cs xs' hf (by simpa using hl) (fun i g hg => hx (i + 1) g hg) (by simp only [List.map_cons, Rows.uptoBulkAll] at hw; omega)
  refine ⟨(y, z), ⟨_, _, ?_, hy, hz⟩, hyw, hzw⟩
  show (cs.drop off).take (a.sz + b.sz) = _
  rw [List.take_add, ho2, List.drop_drop]
theorem opens_struct {α β : Type} {d : Kd α} {wf : α → Prop} {fs : Array Field} {t n : Nat} (g : β → α) (inv : α → β) (hg : ∀ p, g (inv p) = p) (ht : P.underlying t = some (.struct fs)) (hc : P.cellsOf t = d.sz) (h : OpensF B P d wf fs.toList 0 n) :
    Opens B P (Kd.iso d g) (fun x => wf (g x)) t (n + 1) := by
  intro H enc w base spare held fuel cs x hf hx hw
  obtain ⟨xs, m, rfl, rfl, hcl, hxl, hfx⟩ := DataW.trod_struct ht hx
  simp only [Rows.uptoBulk] at hw
  obtain ⟨y, hy, hyw⟩ := h H enc w base spare held m cs xs (by omega) (by simpa using hxl) (fun i f hf => hfx i f (by simpa using hf)) (by omega)
  refine ⟨inv y, ?_, by show wf (g (inv y)); rw [hg]; exact hyw⟩
  show d.K w (g (inv y)) cs
  rw [hg]
  have : (cs.drop 0).take d.sz = cs := by rw [List.drop_zero, ← hc, ← hcl, List.take_length]
  rwa [this] at hy
end Go.Proofs.YtilmjckpphlniaaDoor.OB
