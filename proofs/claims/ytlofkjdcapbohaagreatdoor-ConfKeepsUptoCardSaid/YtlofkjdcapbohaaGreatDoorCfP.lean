/- For the laws of conf: boxes; part, walked. No condition. -/
import Derived.Test.YtlofkjdcapbohaaGreatDoorCfC
import Derived.Test.YtlofkjdcapbohaaGreatDoorPConfKeepsx13
import Derived.Test.YtlofkjdcapbohaaGreatDoorSItoa
import Derived.Lib.AppendIntMem
namespace Go.Proofs.YtlofkjdcapbohaaGreatDoor.PConfKeeps
open Go.RowKit Go.Proofs.YtlofkjdcapbohaaGreatDoorW.PrintWords Go.Proofs.YtlofkjdcapbohaaGreatDoorW.PrintLast Go.Proofs.YtlofkjdcapbohaaGreatDoorW.PrintMore
set_option linter.unusedVariables false
set_option linter.unusedSimpArgs false
/-- boxes of the call's own, the newest first: block, cells, type -/
structure Bs (w W : World) (l : List (Nat × Array Value × Nat)) : Prop where
  blk : ∀ (i : Nat) (p : Nat × Array Value × Nat), l[i]? = some p → W.heap[p.1]? = some (.cells p.2.1 p.2.2 (0, 0))
  B : Below w.heap.size w W
  ge : ∀ (i : Nat) (p : Nat × Array Value × Nat), l[i]? = some p → w.heap.size ≤ p.1
  nd : ∀ (i j : Nat) (p q : Nat × Array Value × Nat), i < j → l[i]? = some p → l[j]? = some q → q.1 < p.1
namespace Bs
variable {w W W1 : World} {l : List (Nat × Array Value × Nat)} {g t : Nat} {cs : Array Value}
theorem nil (w : World) : Bs w w [] := ⟨fun _ _ h => by simp at h, Below.refl _ _, fun _ _ h => by simp at h, fun _ _ _ _ _ h => by simp at h⟩
theorem below (h : Bs w W l) (hb : Below W.heap.size W W1) : Bs w W1 l := ⟨fun i p hp => blk_below (h.blk i p hp) hb, below_step h.B hb, h.ge, h.nd⟩
theorem size (h : Bs w W l) : w.heap.size ≤ W.heap.size := h.B.size
theorem new (h : Bs w W l) (hg : g = W.heap.size) (hc : W1.heap[g]? = some (.cells cs t (0, 0))) (hb : Below W.heap.size W W1) : Bs w W1 ((g, cs, t) :: l) := by
  have h1 := h.below hb
  refine ⟨fun i p hp => ?_, h1.B, fun i p hp => ?_, fun i j p q hij hp hq => ?_⟩
  · cases i with
    | zero => simp at hp; subst hp; exact hc
    | succ i => exact h1.blk i p (by simpa using hp)
  · cases i with
    | zero => simp at hp; subst hp; show w.heap.size ≤ g; rw [hg]; exact h.size
    | succ i => exact h.ge i p (by simpa using hp)
  · cases j with
    | zero => omega
    | succ j =>
      have hq' : l[j]? = some q := by simpa using hq
      cases i with
      | zero => simp at hp; subst hp; show q.1 < g; rw [hg]; exact blk_lt (h.blk j q hq')
      | succ i => exact h.nd i j p q (by omega) (by simpa using hp) hq'
theorem get (h : Bs w W l) (i : Nat) (hi : l[i]? = some (g, cs, t)) : W.heap[g]? = some (.cells cs t (0, 0)) := h.blk i _ hi
theorem low (h : Bs w W l) (i : Nat) (hi : l[i]? = some (g, cs, t)) : w.heap.size ≤ g := h.ge i _ hi
theorem lt (h : Bs w W l) (i : Nat) (hi : l[i]? = some (g, cs, t)) : g < W.heap.size := blk_lt (h.blk i _ hi)
theorem tail {p : Nat × Array Value × Nat} (h : Bs w W (p :: l)) : Bs w W l :=
  ⟨fun i q hq => h.blk (i + 1) q (by simpa using hq), h.B, fun i q hq => h.ge (i + 1) q (by simpa using hq), fun i j q r hij hq hr => h.nd (i + 1) (j + 1) q r (by omega) (by simpa using hq) (by simpa using hr)⟩
theorem put (h : Bs w W l) (i : Nat) (hi : l[i]? = some (g, cs, t)) (j : Nat) (v : Value) : Bs w (W.setCell ⟨g, j, none⟩ v) (l.set i (g, cs.setIfInBounds j v, t)) := by
  have key : ∀ (k : Nat) (p : Nat × Array Value × Nat), (l.set i (g, cs.setIfInBounds j v, t))[k]? = some p → (k = i ∧ p = (g, cs.setIfInBounds j v, t)) ∨ (k ≠ i ∧ l[k]? = some p) := by
    intro k p hp
    by_cases e : i = k
    · subst e
      have hl : i < l.length := (List.getElem?_eq_some_iff.1 hi).1
      rw [List.getElem?_set_self hl] at hp
      injection hp with hp
      exact .inl ⟨rfl, hp.symm⟩
    · rw [List.getElem?_set_ne e] at hp
      exact .inr ⟨fun h_ => e h_.symm, hp⟩
  have hne : ∀ (k : Nat) (p : Nat × Array Value × Nat), k ≠ i → l[k]? = some p → p.1 ≠ g := by
    intro k p hk hp he
    rcases Nat.lt_or_gt_of_ne hk with hlt | hlt
    · have := h.nd k i _ _ hlt hp hi; dsimp only at this; omega
    · have := h.nd i k _ _ hlt hi hp; dsimp only at this; omega
  refine ⟨fun k p hp => ?_, below_set h.B (h.ge i _ hi), fun k p hp => ?_, fun a b p q hab hp hq => ?_⟩
  · rcases key k p hp with ⟨_, rfl⟩ | ⟨hk, hp'⟩
    · exact blk_put (h.blk i _ hi) j v rfl
    · exact blk_far (h.blk k p hp') (hne k p hk hp') v
  · rcases key k p hp with ⟨_, rfl⟩ | ⟨_, hp'⟩
    · exact h.ge _ (g, cs, t) hi
    · exact h.ge k p hp'
  · rcases key a p hp with ⟨rfl, rfl⟩ | ⟨_, hp'⟩ <;> rcases key b q hq with ⟨rfl, rfl⟩ | ⟨_, hq'⟩
    · omega
    · exact h.nd _ _ (g, cs, t) q hab hi hq'
    · exact h.nd _ _ p (g, cs, t) hab hp' hi
    · exact h.nd _ _ p q hab hp' hq'
theorem grown (h : Bs w W l) {row : Option Nat} (hg : W.grownBy W1 row) (hb : Below w.heap.size w W1) (hr : ∀ (i : Nat) (p : Nat × Array Value × Nat), l[i]? = some p → some p.1 ≠ row) : Bs w W1 l :=
  ⟨fun i p hp => blk_grown (h.blk i p hp) hg (hr i p hp), hb, h.ge, h.nd⟩
theorem put' (h : Bs w W l) (i : Nat) (hi : l[i]? = some (g, cs, t)) (j : Nat) (v : Value) {cs' : Array Value} (e : cs.setIfInBounds j v = cs') : Bs w (W.setCell ⟨g, j, none⟩ v) (l.set i (g, cs', t)) ∧ (l.set i (g, cs', t))[i]? = some (g, cs', t) :=
  e ▸ ⟨h.put i hi j v, List.getElem?_set_self (List.getElem?_eq_some_iff.1 hi).1⟩
theorem six {c0 c1 c2 c3 c4 c5 : Value} (h : Bs w W l) (i : Nat) (hi : l[i]? = some (g, #[c0, c1, c2, c3, c4, c5], t)) (v0 v1 v2 v3 v4 v5 : Value) :
    Bs w ((((((W.setCell ⟨g, 0, none⟩ v0).setCell ⟨g, 1, none⟩ v1).setCell ⟨g, 2, none⟩ v2).setCell ⟨g, 3, none⟩ v3).setCell ⟨g, 4, none⟩ v4).setCell ⟨g, 5, none⟩ v5) (l.set i (g, #[v0, v1, v2, v3, v4, v5], t)) := by
  obtain ⟨a0, b0⟩ := h.put' i hi 0 v0 (cs' := #[v0, c1, c2, c3, c4, c5]) rfl
  obtain ⟨a1, b1⟩ := a0.put' i b0 1 v1 (cs' := #[v0, v1, c2, c3, c4, c5]) rfl
  obtain ⟨a2, b2⟩ := a1.put' i b1 2 v2 (cs' := #[v0, v1, v2, c3, c4, c5]) rfl
  obtain ⟨a3, b3⟩ := a2.put' i b2 3 v3 (cs' := #[v0, v1, v2, v3, c4, c5]) rfl
  obtain ⟨a4, b4⟩ := a3.put' i b3 4 v4 (cs' := #[v0, v1, v2, v3, v4, c5]) rfl
  obtain ⟨a5, _⟩ := a4.put' i b4 5 v5 (cs' := #[v0, v1, v2, v3, v4, v5]) rfl
  rw [List.set_set, List.set_set, List.set_set, List.set_set, List.set_set] at a5
  exact a5
theorem three {c0 c1 c2 : Value} (h : Bs w W l) (i : Nat) (hi : l[i]? = some (g, #[c0, c1, c2], t)) (v0 v1 v2 : Value) :
    Bs w (((W.setCell ⟨g, 0, none⟩ v0).setCell ⟨g, 1, none⟩ v1).setCell ⟨g, 2, none⟩ v2) (l.set i (g, #[v0, v1, v2], t)) := by
  obtain ⟨a0, b0⟩ := h.put' i hi 0 v0 (cs' := #[v0, c1, c2]) rfl
  obtain ⟨a1, b1⟩ := a0.put' i b0 1 v1 (cs' := #[v0, v1, c2]) rfl
  obtain ⟨a2, _⟩ := a1.put' i b1 2 v2 (cs' := #[v0, v1, v2]) rfl
  rw [List.set_set, List.set_set] at a2
  exact a2
end Bs

/-- the library's table of powers is laid, below B -/
structure PT (B : Nat) (w : World) : Prop where
  tab : Lib.TabIs Tryz.prog w "internal/strconv.uint64pow10" .u64 Lib.pow10Tab
  lt : 6 < B
  le : B ≤ w.heap.size
theorem PT.move {B : Nat} {w W : World} (h : PT B w) (hb : ∀ k, k < B → W.heap[k]? = w.heap[k]?) (hs : w.heap.size ≤ W.heap.size) : PT B W := by
  have hgn : Tryz.prog.globalNamed "internal/strconv.uint64pow10" = some 6 := by kernel_rfl
  refine ⟨?_, h.lt, Nat.le_trans h.le hs⟩
  have h0 := h.tab
  unfold Lib.TabIs World.var? at h0 ⊢
  rw [hgn] at h0 ⊢
  simp only [Option.bind_some] at h0 ⊢
  rw [hb 6 h.lt]
  exact h0
theorem PT.below {B : Nat} {w W : World} (h : PT B w) (hb : Below w.heap.size w W) : PT B W := h.move (fun k hk => hb.block k (Nat.lt_of_lt_of_le hk h.le)) hb.size
/-- what part answers -/
def cpart (v : S25) (i : Int) : Option ByteArray :=
  if v.f0 = 6 then (if 0 ≤ i ∧ i < (v.f5.length : Int) then some (rdOf ByteArray.empty v.f5 i) else none) else if 0 ≤ i ∧ i ≤ 9223372036854775807 then some ⟨(Lib.itoa i).toArray⟩ else none
set_option maxHeartbeats 2000000 in
set_option maxRecDepth 100000 in
theorem part_calls (v : S25) (A4 : Option Addr) (c4 : Nat) (A5 : Option Addr) (c5 : Nat) (i : Int) (p : ByteArray) (B : Nat) (w : World) (ht : PT B w) (hv : Rd w v A4 c4 A5 c5) (h : cpart v i = some p) :
    Calls Tryz.prog 54 #[.agg #[.int .i64 v.f0, .bool v.f1, .int .i64 v.f2, .string v.f3, .slice A4 v.f4.length c4, .slice A5 v.f5.length c5], .int .i64 i] w fun e w' => e = .returned (.string p) ∧ Below w.heap.size w w' := by
  have hu25 := Tryz.underlying25
  have HV := Aside0.mk hv
  have HT := Aside0.mk ht
  have HP := Aside0.mk (Bs.nil w)
  unfold cpart at h
  clear hv ht
  go_enter Tryz.func54, Tryz.ntmps54
  go_upto_region 1 with (((with_reducible refine gate_dst (N := 2) rfl ?_); refine box_event ?hg (N := 2) ?hd (cs := #[.int .i64 v.f0, .bool v.f1, .int .i64 v.f2, .string v.f3, .slice A4 v.f4.length c4, .slice A5 v.f5.length c5]) (t := 25) ?hr ?_; (case hd => rfl); (case hg => rfl); (case hr => first | (go_simp; done) | (go_simp; rfl)); intro bv hg_ W1 hbox hb; have n0 := Aside0.mk (HP.out.new hg_ hbox hb); clear HP; have HP := n0; clear n0; clear hg_ hbox hb))
  have yv0 : W1.cell? ⟨bv, 0, none⟩ = some (.int .i64 v.f0) := (blk_cell (HP.out.get 0 rfl) 0).trans rfl
  have yv1 : W1.cell? ⟨bv, 1, none⟩ = some (.bool v.f1) := (blk_cell (HP.out.get 0 rfl) 1).trans rfl
  have yv2 : W1.cell? ⟨bv, 2, none⟩ = some (.int .i64 v.f2) := (blk_cell (HP.out.get 0 rfl) 2).trans rfl
  have yv3 : W1.cell? ⟨bv, 3, none⟩ = some (.string v.f3) := (blk_cell (HP.out.get 0 rfl) 3).trans rfl
  have yv4 : W1.cell? ⟨bv, 4, none⟩ = some (.slice A4 v.f4.length c4) := (blk_cell (HP.out.get 0 rfl) 4).trans rfl
  have yv5 : W1.cell? ⟨bv, 5, none⟩ = some (.slice A5 v.f5.length c5) := (blk_cell (HP.out.get 0 rfl) 5).trans rfl
  by_cases c1 : v.f0 = 6
  case pos =>
    rw [if_pos c1] at h
    have e1 : (v.f0 == 6) = true := beq_iff_eq.2 c1
    have e2 : (v.f0 != 6) = false := bne_eq_false_iff_eq.2 c1
    by_cases c2 : 0 ≤ i ∧ i < (v.f5.length : Int)
    case neg => rw [if_neg c2] at h; cases h
    rw [if_pos c2] at h
    injection h with h
    obtain ⟨p0, p1⟩ := c2
    have q0 : decide (i < (v.f5.length : Int)) = true := decide_eq_true p1
    have q1 : decide (0 ≤ i) = true := decide_eq_true p0
    obtain ⟨ad, e_, x0⟩ := Kd.at_string HV.out.2.2.1 i p0 p1
    cases e_
    rw [h] at x0
    replace x0 := (HP.out.B.cell (World.block_lt_of_cell? w _ x0)).trans x0
    replace p0 := eq_true p0
    replace p1 := eq_true p1
    go_wp2_with fail
    go_ret
    exact ⟨rfl, HP.out.B⟩
  rw [if_neg c1] at h
  by_cases c2 : 0 ≤ i ∧ i ≤ 9223372036854775807
  case neg => rw [if_neg c2] at h; cases h
  rw [if_pos c2] at h
  injection h with h
  subst h
  have e1 : (v.f0 == 6) = false := beq_eq_false_iff_ne.2 c1
  have e2 : (v.f0 != 6) = true := bne_iff_ne.2 c1
  go_wp2_with (go_at_call 75; refine (Shelf.Tryz.strconv_Itoa i (by omega) c2.2 _ (HT.out.below HP.out.B).tab).mono ?_; rintro e w5 ⟨rfl, k5, os5, hw5⟩; have hb : Below W1.heap.size W1 w5 := (by rw [hw5]; exact Lib.below_grow _ _ (Nat.le_refl _) _ _); clear hw5; have n0 := Aside0.mk (HP.out.below hb); clear HP; have HP := n0; clear n0; clear hb)
  go_ret
  exact ⟨rfl, HP.out.B⟩
end Go.Proofs.YtlofkjdcapbohaaGreatDoor.PConfKeeps
