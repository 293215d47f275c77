/- For the laws of conf: set, walked. No condition. For the laws of conf: boxes; part, walked. No condition. For the laws of conf: routes and Routes, walked. No condition. For the laws of conf: boxes; get, Get, Set and Routes, walked. No condition. For the law ConfKeeps: Routes and the law itself, walked. No condition. -/
import Derived.Test.YtlofkjdcapbohaaGreatDoorCfB
import Derived.Test.YtlofkjdcapbohaaGreatDoorPConfKeepsx0
import Derived.Shelf.Strconv.Itoa0
import Derived.Shelf.Strconv.Itoa1
import Derived.Shelf.LaysM
import Derived.Shelf.Strconv.Itoa2
import Derived.Shelf.Strconv.Itoa3
import Derived.Test.YtlofkjdcapbohaaGreatDoorSPlain
import Derived.Lib.AppendIntMem
import Derived.Test.YtlofkjdcapbohaaGreatDoorPConfKeepsx10
import Derived.Test.YtlofkjdcapbohaaGreatDoorPConfKeepsx12
namespace Go.Proofs.YtlofkjdcapbohaaGreatDoor.PConfKeeps
open Go.RowKit Go.Proofs.YtlofkjdcapbohaaGreatDoorW.PrintWords Go.Proofs.YtlofkjdcapbohaaGreatDoorW.PrintLast Go.Proofs.YtlofkjdcapbohaaGreatDoorW.PrintMore
set_option linter.unusedVariables false
set_option linter.unusedSimpArgs false
structure SetAt (w : World) (bx br bs : Nat) (vc xc sc : Array Value) (W : World) : Prop where
 V : W.heap[w.heap.size]? = some (.cells vc 25 (0, 0))
 X : W.heap[bx]? = some (.cells xc 25 (0, 0))
 R : W.heap[br]? = some (.cells #[.int .i64 0, .bool false, .int .i64 0, .string ⟨#[]⟩, .slice none 0 0, .slice none 0 0] 25 (0, 0))
 S : W.heap[bs]? = some (.cells sc 95 (0, 0))
 B : Below w.heap.size w W
 h1 : w.heap.size < bx
 h2 : bx < br
 h3 : br < bs
section
variable {w W w1 : World} {bx br bs : Nat} {vc xc sc : Array Value}
theorem SetAt.below (h : SetAt w bx br bs vc xc sc W) (hb : Below W.heap.size W w1) : SetAt w bx br bs vc xc sc w1 :=
 ⟨blk_below h.V hb, blk_below h.X hb, blk_below h.R hb, blk_below h.S hb, below_step h.B hb, h.h1, h.h2, h.h3⟩
theorem SetAt.size (h : SetAt w bx br bs vc xc sc W) : w.heap.size ≤ W.heap.size := below_size h.B
end
section
variable {w W w1 : World} {ok0 ok : Nat → Prop} {bx br bs bo by_ : Nat} {vc xc sc : Array Value} {v : S25} {A4 : Option Addr} {c4 : Nat} {A5 : Option Addr} {c5 : Nat} {o : Obj}
theorem RdF.six (h : RdF W ok v A4 c4 A5 c5) {g : Nat} (hk : ∀ k, ok k → k ≠ g) (v0 v1 v2 v3 v4 v5 : Value) : RdF ((((((W.setCell ⟨g, 0, none⟩ v0).setCell ⟨g, 1, none⟩ v1).setCell ⟨g, 2, none⟩ v2).setCell ⟨g, 3, none⟩ v3).setCell ⟨g, 4, none⟩ v4).setCell ⟨g, 5, none⟩ v5) ok v A4 c4 A5 c5 :=
 h.step (fun k ho hlt => by obtain ⟨o, ho_⟩ : ∃ o, W.heap[k]? = some o := ⟨_, Array.getElem?_eq_getElem hlt⟩; rw [ho_]; exact put6_far ho_ (hk k ho) _ _ _ _ _ _)
theorem SetAt.grown {row : Option Nat} (h : SetAt w bx br bs vc xc sc W) (hb : Below w.heap.size w w1) (hg : W.grownBy w1 row) (hr : ∀ k, row = some k → bs < k) : SetAt w bx br bs vc xc sc w1 := by
 have a1 := h.h1
 have a2 := h.h2
 have a3 := h.h3
 have hn : ∀ g, g ≤ bs → some g ≠ row := fun g hg he => by have := hr g he.symm; omega
 exact ⟨blk_grown h.V hg (hn _ (by omega)), blk_grown h.X hg (hn _ (by omega)), blk_grown h.R hg (hn _ (by omega)), blk_grown h.S hg (hn _ (by omega)), hb, a1, a2, a3⟩
end
end Go.Proofs.YtlofkjdcapbohaaGreatDoor.PConfKeeps
namespace Go.Proofs.YtlofkjdcapbohaaGreatDoor.PConfKeeps
open Go.RowKit Go.Proofs.YtlofkjdcapbohaaGreatDoorW.PrintWords Go.Proofs.YtlofkjdcapbohaaGreatDoorW.PrintLast Go.Proofs.YtlofkjdcapbohaaGreatDoorW.PrintMore
set_option linter.unusedVariables false
set_option linter.unusedSimpArgs false
/-- boxes of the call's own, the newest first: block, cells, type -/
structure Bs (w W : World) (l : List (Nat × Array Value × Nat)) : Prop where
 blk : ∀ (i : Nat) (p : Nat × Array Value × Nat), l[i]? = some p → W.heap[p.1]? = some (.cells p.2.1 p.2.2 (0, 0))
 B : Below w.heap.size w W
 ge : ∀ (i : Nat) (p : Nat × Array Value × Nat), l[i]? = some p → w.heap.size ≤ p.1
 nd : ∀ (i j : Nat) (p q : Nat × Array Value × Nat), i < j → l[i]? = some p → l[j]? = some q → q.1 < p.1
namespace Bs
variable {w W W1 : World} {l : List (Nat × Array Value × Nat)} {g t : Nat} {cs : Array Value}
theorem nil (w : World) : Bs w w [] := ⟨fun _ _ h => by simp at h, Below.refl _ _, fun _ _ h => by simp at h, fun _ _ _ _ _ h => by simp at h⟩
theorem below (h : Bs w W l) (hb : Below W.heap.size W W1) : Bs w W1 l := ⟨fun i p hp => blk_below (h.blk i p hp) hb, below_step h.B hb, h.ge, h.nd⟩
theorem size (h : Bs w W l) : w.heap.size ≤ W.heap.size := h.B.size
theorem new (h : Bs w W l) (hg : g = W.heap.size) (hc : W1.heap[g]? = some (.cells cs t (0, 0))) (hb : Below W.heap.size W W1) : Bs w W1 ((g, cs, t) :: l) := by
 have h1 := h.below hb
 refine ⟨fun i p hp => ?_, h1.B, fun i p hp => ?_, fun i j p q hij hp hq => ?_⟩
 ·cases i with
  | zero => simp at hp; subst hp; exact hc
  | succ i => exact h1.blk i p (by simpa using hp)
 ·cases i with
  | zero => simp at hp; subst hp; show w.heap.size ≤ g; rw [hg]; exact h.size
  | succ i => exact h.ge i p (by simpa using hp)
 ·cases j with
  | zero => omega
  | succ j =>
   have hq' : l[j]? = some q := by simpa using hq
   cases i with
   | zero => simp at hp; subst hp; show q.1 < g; rw [hg]; exact blk_lt (h.blk j q hq')
   | succ i => exact h.nd i j p q (by omega) (by simpa using hp) hq'
theorem get (h : Bs w W l) (i : Nat) (hi : l[i]? = some (g, cs, t)) : W.heap[g]? = some (.cells cs t (0, 0)) := h.blk i _ hi
theorem cl (h : Bs w W l) (i j : Nat) (hi : l[i]? = some (g, cs, t)) {v : Value} (hj : cs[j]? = some v) : W.cell? ⟨g, j, none⟩ = some v := (blk_cell (h.get i hi) j).trans hj
theorem fz (h : Bs w W l) (i j : Nat) (hi : l[i]? = some (g, cs, t)) : W.frozen? ⟨g, j, none⟩ = false := blk_frozen (h.get i hi) j
theorem low (h : Bs w W l) (i : Nat) (hi : l[i]? = some (g, cs, t)) : w.heap.size ≤ g := h.ge i _ hi
theorem lt (h : Bs w W l) (i : Nat) (hi : l[i]? = some (g, cs, t)) : g < W.heap.size := blk_lt (h.blk i _ hi)
theorem tail {p : Nat × Array Value × Nat} (h : Bs w W (p :: l)) : Bs w W l :=
 ⟨fun i q hq => h.blk (i + 1) q (by simpa using hq), h.B, fun i q hq => h.ge (i + 1) q (by simpa using hq), fun i j q r hij hq hr => h.nd (i + 1) (j + 1) q r (by omega) (by simpa using hq) (by simpa using hr)⟩
theorem put (h : Bs w W l) (i : Nat) (hi : l[i]? = some (g, cs, t)) (j : Nat) (v : Value) : Bs w (W.setCell ⟨g, j, none⟩ v) (l.set i (g, cs.setIfInBounds j v, t)) := by
 have key : ∀ (k : Nat) (p : Nat × Array Value × Nat), (l.set i (g, cs.setIfInBounds j v, t))[k]? = some p → (k = i ∧ p = (g, cs.setIfInBounds j v, t)) ∨ (k ≠ i ∧ l[k]? = some p) := by
  intro k p hp
  by_cases e : i = k
  ·subst e
   have hl : i < l.length := (List.getElem?_eq_some_iff.1 hi).1
   rw [List.getElem?_set_self hl] at hp
   injection hp with hp
   exact .inl ⟨rfl, hp.symm⟩
  ·rw [List.getElem?_set_ne e] at hp
   exact .inr ⟨fun h_ => e h_.symm, hp⟩
 have hne : ∀ (k : Nat) (p : Nat × Array Value × Nat), k ≠ i → l[k]? = some p → p.1 ≠ g := by
  intro k p hk hp he
  rcases Nat.lt_or_gt_of_ne hk with hlt | hlt
  ·have := h.nd k i _ _ hlt hp hi; dsimp only at this; omega
  ·have := h.nd i k _ _ hlt hi hp; dsimp only at this; omega
 refine ⟨fun k p hp => ?_, below_set h.B (h.ge i _ hi), fun k p hp => ?_, fun a b p q hab hp hq => ?_⟩
 ·rcases key k p hp with ⟨_, rfl⟩ | ⟨hk, hp'⟩
  ·exact blk_put (h.blk i _ hi) j v rfl
  ·exact blk_far (h.blk k p hp') (hne k p hk hp') v
 ·rcases key k p hp with ⟨_, rfl⟩ | ⟨_, hp'⟩
  ·exact h.ge _ (g, cs, t) hi
  ·exact h.ge k p hp'
 ·rcases key a p hp with ⟨rfl, rfl⟩ | ⟨_, hp'⟩ <;> rcases key b q hq with ⟨rfl, rfl⟩ | ⟨_, hq'⟩
  ·omega
  ·exact h.nd _ _ (g, cs, t) q hab hi hq'
  ·exact h.nd _ _ p (g, cs, t) hab hp' hi
  ·exact h.nd _ _ p q hab hp' hq'
theorem grown (h : Bs w W l) {row : Option Nat} (hg : W.grownBy W1 row) (hb : Below w.heap.size w W1) (hr : ∀ (i : Nat) (p : Nat × Array Value × Nat), l[i]? = some p → some p.1 ≠ row) : Bs w W1 l :=
 ⟨fun i p hp => blk_grown (h.blk i p hp) hg (hr i p hp), hb, h.ge, h.nd⟩
theorem put' (h : Bs w W l) (i : Nat) (hi : l[i]? = some (g, cs, t)) (j : Nat) (v : Value) {cs' : Array Value} (e : cs.setIfInBounds j v = cs') : Bs w (W.setCell ⟨g, j, none⟩ v) (l.set i (g, cs', t)) ∧ (l.set i (g, cs', t))[i]? = some (g, cs', t) :=
 e ▸ ⟨h.put i hi j v, List.getElem?_set_self (List.getElem?_eq_some_iff.1 hi).1⟩
theorem six {c0 c1 c2 c3 c4 c5 : Value} (h : Bs w W l) (i : Nat) (hi : l[i]? = some (g, #[c0, c1, c2, c3, c4, c5], t)) (v0 v1 v2 v3 v4 v5 : Value) :
  Bs w ((((((W.setCell ⟨g, 0, none⟩ v0).setCell ⟨g, 1, none⟩ v1).setCell ⟨g, 2, none⟩ v2).setCell ⟨g, 3, none⟩ v3).setCell ⟨g, 4, none⟩ v4).setCell ⟨g, 5, none⟩ v5) (l.set i (g, #[v0, v1, v2, v3, v4, v5], t)) := by
 obtain ⟨a0, b0⟩ := h.put' i hi 0 v0 (cs' := #[v0, c1, c2, c3, c4, c5]) rfl
 obtain ⟨a1, b1⟩ := a0.put' i b0 1 v1 (cs' := #[v0, v1, c2, c3, c4, c5]) rfl
 obtain ⟨a2, b2⟩ := a1.put' i b1 2 v2 (cs' := #[v0, v1, v2, c3, c4, c5]) rfl
 obtain ⟨a3, b3⟩ := a2.put' i b2 3 v3 (cs' := #[v0, v1, v2, v3, c4, c5]) rfl
 obtain ⟨a4, b4⟩ := a3.put' i b3 4 v4 (cs' := #[v0, v1, v2, v3, v4, c5]) rfl
 obtain ⟨a5, _⟩ := a4.put' i b4 5 v5 (cs' := #[v0, v1, v2, v3, v4, v5]) rfl
 rw [List.set_set, List.set_set, List.set_set, List.set_set, List.set_set] at a5
 exact a5
end Bs

/-- the library's table of powers is laid, below B -/
structure PT (B : Nat) (w : World) : Prop where
 tab : Lib.TabIs Tryz.prog w "internal/strconv.uint64pow10" .u64 Lib.pow10Tab
 lt : 6 < B
 le : B ≤ w.heap.size
theorem PT.move {B : Nat} {w W : World} (h : PT B w) (hb : ∀ k, k < B → W.heap[k]? = w.heap[k]?) (hs : w.heap.size ≤ W.heap.size) : PT B W := by
 have hgn : Tryz.prog.globalNamed "internal/strconv.uint64pow10" = some 6 := by kernel_rfl
 refine ⟨?_, h.lt, Nat.le_trans h.le hs⟩
 have h0 := h.tab
 unfold Lib.TabIs World.var? at h0 ⊢
 rw [hgn] at h0 ⊢
 simp only [Option.bind_some] at h0 ⊢
 rw [hb 6 h.lt]
 exact h0
theorem PT.below {B : Nat} {w W : World} (h : PT B w) (hb : Below w.heap.size w W) : PT B W := h.move (fun k hk => hb.block k (Nat.lt_of_lt_of_le hk h.le)) hb.size
end Go.Proofs.YtlofkjdcapbohaaGreatDoor.PConfKeeps
namespace Go.Proofs.YtlofkjdcapbohaaGreatDoor.PConfKeeps
open Go.RowKit Go.Proofs.YtlofkjdcapbohaaGreatDoorW.PrintWords Go.Proofs.YtlofkjdcapbohaaGreatDoorW.PrintLast Go.Proofs.YtlofkjdcapbohaaGreatDoorW.PrintMore
set_option linter.unusedVariables false
set_option linter.unusedSimpArgs false
theorem grown_trans {w W w1 : World} {r r' : Option Nat} (h : w.grownBy W r) (k : W.grownBy w1 r') (hr : ∀ i, i < w.heap.size → some i ≠ r → some i ≠ r') : w.grownBy w1 r :=
 ⟨k.os.trans h.os, k.tape.trans h.tape, k.output.trans h.output, Nat.le_trans h.size k.size, fun i hi hne => (k.block i (Nat.lt_of_lt_of_le hi h.size) (hr i hi hne)).trans (h.block i hi hne)⟩
theorem rowk {W : World} {base g : Nat} {cv : Value} {xs : List ByteArray} (h : Kd.R Kd.string 9 W base (fun _ => True) cv xs) (hn : some g ≠ cv.ownBlock) : Kd.R Kd.string 9 W base (fun k => k ≠ g) cv xs :=
 ⟨fun k hk he => hn (by rw [← he]; exact hk.symm), h.2⟩
structure RtAt (w : World) (base : Nat) (v0 : Value) (vc : Array Value) (cv : Value) (xs : List ByteArray) (W : World) : Prop where
 V : W.heap[w.heap.size]? = some (.cells vc 25 (0, 0))
 O : Kd.R Kd.string 9 W base (fun _ => True) cv xs
 G : w.grownBy W v0.ownBlock
 T : cv.ownBlock = v0.ownBlock ∨ ∃ b, cv.ownBlock = some b ∧ w.heap.size ≤ b
section
variable {w W w1 : World} {base : Nat} {v0 cv v1 : Value} {vc : Array Value} {xs ys : List ByteArray}
theorem RtAt.far (h : RtAt w base v0 vc cv xs W) : ∀ i, i < w.heap.size → some i ≠ v0.ownBlock → some i ≠ cv.ownBlock := fun i hi hne he => by
 rcases h.T with t | ⟨b, t, hb⟩
 ·exact hne (he.trans t)
 ·rw [t] at he; injection he with he; omega
theorem RtAt.below (h : RtAt w base v0 vc cv xs W) (hb : Below W.heap.size W w1) : RtAt w base v0 vc cv xs w1 :=
 ⟨blk_below h.V hb, Kd.R_below h.O hb, grown_trans h.G (grown_of_below hb v0.ownBlock) (fun _ _ hne => hne), h.T⟩
theorem RtAt.row (h : RtAt w base v0 vc cv xs W) (ho : Kd.R Kd.string 9 w1 base (fun _ => True) v1 ys) (hg : W.grownBy w1 cv.ownBlock) (hat : v1.ownBlock = cv.ownBlock ∨ ∃ b, v1.ownBlock = some b ∧ W.heap.size ≤ b) : RtAt w base v0 vc v1 ys w1 := by
 refine ⟨blk_grown h.V hg (Kd.R_ne h.O h.V (by decide)), ho, grown_trans h.G hg h.far, ?_⟩
 rcases hat with t | ⟨b, t, hb⟩
 ·rcases h.T with t' | ⟨b', t', hb'⟩
  ·exact .inl (t.trans t')
  ·exact .inr ⟨b', t.trans t', hb'⟩
 ·exact .inr ⟨b, t, Nat.le_trans h.G.size hb⟩
theorem six_same {g k : Nat} (hk : k ≠ g) (hlt : k < W.heap.size) (u0 u1 u2 u3 u4 u5 : Value) : ((((((W.setCell ⟨g, 0, none⟩ u0).setCell ⟨g, 1, none⟩ u1).setCell ⟨g, 2, none⟩ u2).setCell ⟨g, 3, none⟩ u3).setCell ⟨g, 4, none⟩ u4).setCell ⟨g, 5, none⟩ u5).heap[k]? = W.heap[k]? := by
 obtain ⟨o, ho⟩ : ∃ o, W.heap[k]? = some o := ⟨_, Array.getElem?_eq_getElem hlt⟩
 rw [ho]
 exact put6_far ho hk _ _ _ _ _ _
theorem RtAt.six (h : RtAt w base v0 vc cv xs W) {g : Nat} (h1 : w.heap.size < g) (hn : some g ≠ cv.ownBlock) (u0 u1 u2 u3 u4 u5 : Value) : RtAt w base v0 vc cv xs ((((((W.setCell ⟨g, 0, none⟩ u0).setCell ⟨g, 1, none⟩ u1).setCell ⟨g, 2, none⟩ u2).setCell ⟨g, 3, none⟩ u3).setCell ⟨g, 4, none⟩ u4).setCell ⟨g, 5, none⟩ u5) := by
 have hl := Nat.le_of_lt h1
 have hb : Below w.heap.size W ((((((W.setCell ⟨g, 0, none⟩ u0).setCell ⟨g, 1, none⟩ u1).setCell ⟨g, 2, none⟩ u2).setCell ⟨g, 3, none⟩ u3).setCell ⟨g, 4, none⟩ u4).setCell ⟨g, 5, none⟩ u5) := ((((((Below.refl _ W).setCell hl _).setCell hl _).setCell hl _).setCell hl _).setCell hl _).setCell hl _
 have hr := rowk h.O hn
 refine ⟨put6_far h.V (by omega) _ _ _ _ _ _, Kd.R_mono (Kd.R_far (Kd.R_far (Kd.R_far (Kd.R_far (Kd.R_far (Kd.R_far hr (fun _ hk => hk) _) (fun _ hk => hk) _) (fun _ hk => hk) _) (fun _ hk => hk) _) (fun _ hk => hk) _) (fun _ hk => hk) _) (fun _ _ => trivial), ⟨hb.os.trans h.G.os, hb.tape.trans h.G.tape, hb.output.trans h.G.output, Nat.le_trans h.G.size hb.size, fun i hi hne => (hb.block i hi).trans (h.G.block i hi hne)⟩, h.T⟩
theorem RtAt.low (h : RtAt w base v0 vc cv xs W) (hb : base ≤ w.heap.size) : base ≤ W.heap.size := Nat.le_trans hb h.G.size
end
section
variable {w : World} {ok : Nat → Prop} {v : S25} {A4 : Option Addr} {c4 : Nat} {A5 : Option Addr} {c5 : Nat}
theorem RdF.i (h : RdF w ok v A4 c4 A5 c5) : Kd.C k25 w A4 v.f4.length v.f4 := h.now.1
theorem RdF.li (h : RdF w ok v A4 c4 A5 c5) : v.f4.length ≤ c4 := h.2.1
theorem RdF.k (h : RdF w ok v A4 c4 A5 c5) : Kd.C Kd.string w A5 v.f5.length v.f5 := h.now.2.2.1
end
end Go.Proofs.YtlofkjdcapbohaaGreatDoor.PConfKeeps
namespace Go.Proofs.YtlofkjdcapbohaaGreatDoor.PConfKeeps
open Go.RowKit Go.Proofs.YtlofkjdcapbohaaGreatDoorW.PrintWords Go.Proofs.YtlofkjdcapbohaaGreatDoorW.PrintLast Go.Proofs.YtlofkjdcapbohaaGreatDoorW.PrintMore
set_option linter.unusedVariables false
set_option linter.unusedSimpArgs false

theorem Rd.F {w : World} {v : S25} {A4 : Option Addr} {c4 : Nat} {A5 : Option Addr} {c5 : Nat} (h : Rd w v A4 c4 A5 c5) : RdF w (fun k => k < w.heap.size) v A4 c4 A5 c5 := ⟨Kd.C_F k25_heap h.1, h.2.1, Kd.C_F Kd.heap_string h.2.2.1, h.2.2.2⟩
def Fck (k : Nat) (v : S25) : Option Int := conf_Check.f k v.f0 v.f1 v.f2 v.f3 v.f4 v.f5
def Fcl (k : Nat) (v : S25) : Option S25 := (conf_clone.f k v.f0 v.f1 v.f2 v.f3 v.f4 v.f5).bind fun t => some ⟨t.1, t.2.1, t.2.2.1, t.2.2.2.1, t.2.2.2.2.1, t.2.2.2.2.2⟩
theorem check_calls (k : Nat) (v : S25) (A4 : Option Addr) (c4 : Nat) (A5 : Option Addr) (c5 : Nat) (e1 : Int) (w : World) (hv : Rd w v A4 c4 A5 c5) (h : Fck k v = some e1) : Calls Tryz.prog 18 #[.agg #[.int .i64 v.f0, .bool v.f1, .int .i64 v.f2, .string v.f3, .slice A4 v.f4.length c4, .slice A5 v.f5.length c5]] w fun e w' => e = .returned (.int .i64 e1) ∧ Below w.heap.size w w' :=
 conf_Check.calls k v.f0 v.f1 v.f2 v.f3 A4 c4 v.f4 A5 c5 v.f5 e1 w hv.1 hv.2.1 hv.2.2.1 hv.2.2.2 h
theorem clone_calls (k : Nat) (v : S25) (A4 : Option Addr) (c4 : Nat) (A5 : Option Addr) (c5 : Nat) (r : S25) (w : World) (hv : Rd w v A4 c4 A5 c5) (h : Fcl k v = some r) : Calls Tryz.prog 21 #[.agg #[.int .i64 v.f0, .bool v.f1, .int .i64 v.f2, .string v.f3, .slice A4 v.f4.length c4, .slice A5 v.f5.length c5]] w fun e w' => ∃ E4 e4 E5 e5, e = .returned (.agg #[.int .i64 r.f0, .bool r.f1, .int .i64 r.f2, .string r.f3, .slice E4 r.f4.length e4, .slice E5 r.f5.length e5]) ∧ RdF w' (fun k => w.heap.size ≤ k) r E4 e4 E5 e5 ∧ Below w.heap.size w w' := by
 unfold Fcl at h
 obtain ⟨⟨t1, t2, t3, t4, t5, t6⟩, ht, h⟩ := Option.bind_eq_some_iff.1 h
 injection h with h
 subst h
 refine (conf_clone.calls k v.f0 v.f1 v.f2 v.f3 A4 c4 v.f4 A5 c5 v.f5 t1 t2 t3 t4 t5 t6 w hv.1 hv.2.1 hv.2.2.1 hv.2.2.2 ht).mono ?_
 rintro e w' ⟨v4, v5, rfl, h4, h5, hb⟩
 obtain ⟨A4', d4, rfl, l4, _⟩ := Kd.R_reads h4
 obtain ⟨A5', d5, rfl, l5, _⟩ := Kd.R_reads h5
 exact ⟨A4', d4, A5', d5, rfl, ⟨Kd.F_mono (Kd.R_F (Kd.R_bound h4)) (fun _ hk => hk.2.1), l4, Kd.F_mono (Kd.R_F (Kd.R_bound h5)) (fun _ hk => hk.2.1), l5⟩, hb⟩
theorem steps_calls (k : Nat) (s : ByteArray) (b : Bool) (l : List S95) (ok : Bool) (w : World) (h : conf_steps.f k s b = some (l, ok)) : Calls Tryz.prog 19 #[.string s, .bool b] w fun e w' => ∃ A c, e = .returned (.tuple #[.slice A l.length c, .bool ok]) ∧ Kd.C k95 w' A l.length l ∧ l.length ≤ c ∧ Below w.heap.size w w' := by
 refine (conf_steps.calls k s b l ok w h).mono ?_
 rintro e w' ⟨v, rfl, hr, hb⟩
 obtain ⟨A, c, rfl, hc, hC⟩ := Kd.R_reads hr
 exact ⟨A, c, rfl, hC, hc, hb⟩
end Go.Proofs.YtlofkjdcapbohaaGreatDoor.PConfKeeps
namespace Go.Proofs.YtlofkjdcapbohaaGreatDoor.PConfKeeps
open Go.RowKit Go.Proofs.YtlofkjdcapbohaaGreatDoorW.PrintWords Go.Proofs.YtlofkjdcapbohaaGreatDoorW.PrintLast Go.Proofs.YtlofkjdcapbohaaGreatDoorW.PrintMore
set_option linter.unusedVariables false
set_option linter.unusedSimpArgs false

def Fsm (k : Nat) (v x : S25) : Option Bool := mastkeep2_same.f k v.f0 v.f1 v.f2 v.f3 v.f4 v.f5 x.f0 x.f1 x.f2 x.f3 x.f4 x.f5
theorem same_calls (k : Nat) (v : S25) (A4 : Option Addr) (c4 : Nat) (A5 : Option Addr) (c5 : Nat) (x : S25) (B4 : Option Addr) (d4 : Nat) (B5 : Option Addr) (d5 : Nat) (b : Bool) (w : World) (hv : Rd w v A4 c4 A5 c5) (hx : Rd w x B4 d4 B5 d5) (h : Fsm k v x = some b) : Calls Tryz.prog 9 #[.agg #[.int .i64 v.f0, .bool v.f1, .int .i64 v.f2, .string v.f3, .slice A4 v.f4.length c4, .slice A5 v.f5.length c5], .agg #[.int .i64 x.f0, .bool x.f1, .int .i64 x.f2, .string x.f3, .slice B4 x.f4.length d4, .slice B5 x.f5.length d5]] w fun e w' => e = .returned (.bool b) ∧ Below w.heap.size w w' :=
 (mastkeep2_same.calls k v.f0 v.f1 v.f2 v.f3 A4 c4 v.f4 A5 c5 v.f5 x.f0 x.f1 x.f2 x.f3 B4 d4 x.f4 B5 d5 x.f5 b w hv.1 hv.2.1 hv.2.2.1 hv.2.2.2 hx.1 hx.2.1 hx.2.2.1 hx.2.2.2 h)
end Go.Proofs.YtlofkjdcapbohaaGreatDoor.PConfKeeps
