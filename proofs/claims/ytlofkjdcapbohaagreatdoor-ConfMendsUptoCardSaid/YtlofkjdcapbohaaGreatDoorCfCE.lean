/- For the laws of conf: set, walked. No condition. For the laws of conf: boxes; part, walked. No condition. For the laws of conf: routes and Routes, walked. No condition. For the laws of conf: boxes; get, Get, Set and Routes, walked. No condition. For the law ConfKeeps: Routes and the law itself, walked. No condition. -/
import Derived.Test.YtlofkjdcapbohaaGreatDoorCfB
import Derived.Test.YtlofkjdcapbohaaGreatDoorPConfKeepsx13
import Derived.Shelf.Strconv.Itoa0
import Derived.Shelf.Strconv.Itoa1
import Derived.Shelf.LaysM
import Derived.Shelf.Strconv.Itoa2
import Derived.Shelf.Strconv.Itoa3
import Derived.Test.YtlofkjdcapbohaaGreatDoorSPlain
import Derived.Lib.AppendIntMem
import Derived.Test.YtlofkjdcapbohaaGreatDoorPConfKeepsx10
import Derived.Test.YtlofkjdcapbohaaGreatDoorPConfKeepsx12
namespace Go.Proofs.YtlofkjdcapbohaaGreatDoor.PConfKeeps
open Go.RowKit Go.Proofs.YtlofkjdcapbohaaGreatDoorW.PrintWords Go.Proofs.YtlofkjdcapbohaaGreatDoorW.PrintLast Go.Proofs.YtlofkjdcapbohaaGreatDoorW.PrintMore
set_option linter.unusedVariables false
set_option linter.unusedSimpArgs false
structure SetAt (w : World) (bx br bs : Nat) (vc xc sc : Array Value) (W : World) : Prop where
  V : W.heap[w.heap.size]? = some (.cells vc 25 (0, 0))
  X : W.heap[bx]? = some (.cells xc 25 (0, 0))
  R : W.heap[br]? = some (.cells #[.int .i64 0, .bool false, .int .i64 0, .string ⟨#[]⟩, .slice none 0 0, .slice none 0 0] 25 (0, 0))
  S : W.heap[bs]? = some (.cells sc 95 (0, 0))
  B : Below w.heap.size w W
  h1 : w.heap.size < bx
  h2 : bx < br
  h3 : br < bs
section
variable {w W w1 : World} {bx br bs : Nat} {vc xc sc : Array Value}
theorem SetAt.below (h : SetAt w bx br bs vc xc sc W) (hb : Below W.heap.size W w1) : SetAt w bx br bs vc xc sc w1 :=
  ⟨blk_below h.V hb, blk_below h.X hb, blk_below h.R hb, blk_below h.S hb, below_step h.B hb, h.h1, h.h2, h.h3⟩
theorem SetAt.size (h : SetAt w bx br bs vc xc sc W) : w.heap.size ≤ W.heap.size := below_size h.B
theorem SetAt.setV {c0 c1 c2 c3 c4 c5 : Value} (h : SetAt w bx br bs #[c0, c1, c2, c3, c4, c5] xc sc W) (v0 v1 v2 v3 v4 v5 : Value) : SetAt w bx br bs #[v0, v1, v2, v3, v4, v5] xc sc ((((((W.setCell ⟨w.heap.size, 0, none⟩ v0).setCell ⟨w.heap.size, 1, none⟩ v1).setCell ⟨w.heap.size, 2, none⟩ v2).setCell ⟨w.heap.size, 3, none⟩ v3).setCell ⟨w.heap.size, 4, none⟩ v4).setCell ⟨w.heap.size, 5, none⟩ v5) := by
  have a1 := h.h1
  have a2 := h.h2
  have a3 := h.h3
  exact ⟨put6 h.V _ _ _ _ _ _, put6_far h.X (by omega) _ _ _ _ _ _, put6_far h.R (by omega) _ _ _ _ _ _, put6_far h.S (by omega) _ _ _ _ _ _, put6_below h.B (Nat.le_refl _) _ _ _ _ _ _, a1, a2, a3⟩
theorem SetAt.box (h : SetAt w bx br bs vc xc sc W) {bo : Nat} (hb : bs < bo) (v0 v1 v2 v3 v4 v5 : Value) : SetAt w bx br bs vc xc sc ((((((W.setCell ⟨bo, 0, none⟩ v0).setCell ⟨bo, 1, none⟩ v1).setCell ⟨bo, 2, none⟩ v2).setCell ⟨bo, 3, none⟩ v3).setCell ⟨bo, 4, none⟩ v4).setCell ⟨bo, 5, none⟩ v5) := by
  have a1 := h.h1
  have a2 := h.h2
  have a3 := h.h3
  exact ⟨put6_far h.V (by omega) _ _ _ _ _ _, put6_far h.X (by omega) _ _ _ _ _ _, put6_far h.R (by omega) _ _ _ _ _ _, put6_far h.S (by omega) _ _ _ _ _ _, put6_below h.B (by omega) _ _ _ _ _ _, a1, a2, a3⟩
end
theorem put3 {W : World} {g t : Nat} {c0 c1 c2 : Value} (h : W.heap[g]? = some (.cells #[c0, c1, c2] t (0, 0))) (v0 v1 v2 : Value) : (((W.setCell ⟨g, 0, none⟩ v0).setCell ⟨g, 1, none⟩ v1).setCell ⟨g, 2, none⟩ v2).heap[g]? = some (.cells #[v0, v1, v2] t (0, 0)) := by
  have h0 := blk_put (cs' := #[v0, c1, c2]) h 0 v0 rfl
  have h1 := blk_put (cs' := #[v0, v1, c2]) h0 1 v1 rfl
  exact blk_put (cs' := #[v0, v1, v2]) h1 2 v2 rfl
theorem put3_far {W : World} {g b : Nat} {o : Obj} (h : W.heap[b]? = some o) (hne : b ≠ g) (v0 v1 v2 : Value) : (((W.setCell ⟨g, 0, none⟩ v0).setCell ⟨g, 1, none⟩ v1).setCell ⟨g, 2, none⟩ v2).heap[b]? = some o :=
  (Below.heap_setCell _ _ _ _ hne).trans ((Below.heap_setCell _ _ _ _ hne).trans ((Below.heap_setCell _ _ _ _ hne).trans h))
def okY (w : World) (ok0 : Nat → Prop) (bo by_ : Nat) : Nat → Prop := fun k => ((ok0 k ∧ k < w.heap.size) ∨ bo < k) ∧ k ≠ by_
section
variable {w W w1 : World} {ok0 ok : Nat → Prop} {bx br bs bo by_ : Nat} {vc xc sc : Array Value} {v : S25} {A4 : Option Addr} {c4 : Nat} {A5 : Option Addr} {c5 : Nat} {o : Obj}
theorem RdF.six (h : RdF W ok v A4 c4 A5 c5) {g : Nat} (hk : ∀ k, ok k → k ≠ g) (v0 v1 v2 v3 v4 v5 : Value) : RdF ((((((W.setCell ⟨g, 0, none⟩ v0).setCell ⟨g, 1, none⟩ v1).setCell ⟨g, 2, none⟩ v2).setCell ⟨g, 3, none⟩ v3).setCell ⟨g, 4, none⟩ v4).setCell ⟨g, 5, none⟩ v5) ok v A4 c4 A5 c5 :=
  h.step (fun k ho hlt => by obtain ⟨o, ho_⟩ : ∃ o, W.heap[k]? = some o := ⟨_, Array.getElem?_eq_getElem hlt⟩; rw [ho_]; exact put6_far ho_ (hk k ho) _ _ _ _ _ _)
theorem RdF.three (h : RdF W ok v A4 c4 A5 c5) {g : Nat} (hk : ∀ k, ok k → k ≠ g) (v0 v1 v2 : Value) : RdF (((W.setCell ⟨g, 0, none⟩ v0).setCell ⟨g, 1, none⟩ v1).setCell ⟨g, 2, none⟩ v2) ok v A4 c4 A5 c5 :=
  h.step (fun k ho hlt => by obtain ⟨o, ho_⟩ : ∃ o, W.heap[k]? = some o := ⟨_, Array.getElem?_eq_getElem hlt⟩; rw [ho_]; exact put3_far ho_ (hk k ho) _ _ _)
theorem okY_fst (h : RdF w1 (fun k => (ok0 k ∧ k < w.heap.size) ∨ W.heap.size ≤ k) v A4 c4 A5 c5) (h1 : bo < W.heap.size) (h2 : by_ < W.heap.size) (h3 : w.heap.size ≤ by_) : RdF w1 (okY w ok0 bo by_) v A4 c4 A5 c5 :=
  h.mono (fun k hk => ⟨hk.elim .inl (fun h_ => .inr (by omega)), by rcases hk with hk | hk <;> omega⟩)
theorem SetAt.grown {row : Option Nat} (h : SetAt w bx br bs vc xc sc W) (hb : Below w.heap.size w w1) (hg : W.grownBy w1 row) (hr : ∀ k, row = some k → bs < k) : SetAt w bx br bs vc xc sc w1 := by
  have a1 := h.h1
  have a2 := h.h2
  have a3 := h.h3
  have hn : ∀ g, g ≤ bs → some g ≠ row := fun g hg he => by have := hr g he.symm; omega
  exact ⟨blk_grown h.V hg (hn _ (by omega)), blk_grown h.X hg (hn _ (by omega)), blk_grown h.R hg (hn _ (by omega)), blk_grown h.S hg (hn _ (by omega)), hb, a1, a2, a3⟩
theorem okY_old (h : SetAt w bx br bs vc xc sc W) (h1 : bs < bo) (h2 : bo < by_) : ∀ k, (ok0 k ∧ k < w.heap.size) → okY w ok0 bo by_ k ∧ some k ≠ (Value.slice none 0 0).ownBlock := fun k hk => by
  have a1 := h.h1
  have a2 := h.h2
  have a3 := h.h3
  exact ⟨⟨.inl hk, by have := hk.2; omega⟩, by simp [Value.ownBlock]⟩
theorem okY_new (h2 : bo < by_) (h : W.heap[by_]? = some o) : ∀ k, W.heap.size ≤ k → okY w ok0 bo by_ k := fun k hk => by
  have := blk_lt h
  exact ⟨.inr (by omega), by omega⟩
theorem okN_row (h : SetAt w bx br bs vc xc sc W) (h1 : bs < bo) (h2 : bo < by_) {v1 : Value} {xs : List S25} (hn : Kd.N k25 25 W w.heap.size (okY w ok0 bo by_) v1 xs) : ∀ k, v1.ownBlock = some k → bs < k := fun k hk => by
  have a := Kd.N_base hn k hk
  have b := hn.1 k hk
  rcases b.1 with h_ | h_ <;> omega
theorem below_row {g : Nat} {v1 : Value} {xs : List S25} (hb : Below w.heap.size w W) (hg : W.grownBy w1 (some g)) (hn : Kd.N k25 25 W w.heap.size (okY w ok0 bo by_) v1 xs) (hv : v1.ownBlock = some g := by rfl) : Below w.heap.size w w1 :=
  pw_below_grown hb _ hb.size hg (fun k hk => by injection hk with hk; subst hk; exact Kd.N_base hn g hv)
theorem own_of_nil {v1 : Value} (hat : v1.ownBlock = (Value.slice none 0 0).ownBlock ∨ ∃ b, v1.ownBlock = some b ∧ W.heap.size ≤ b) : ∀ k, v1.ownBlock = some k → W.heap.size ≤ k := fun k hk => by
  rcases hat with h_ | ⟨b, h_, hb⟩
  · rw [h_] at hk; simp [Value.ownBlock] at hk
  · rw [h_] at hk; injection hk with hk; omega
end
def ckind (s : S95) : Int := if s.f0.toList = [] then 5 else 6
def cval (v : S25) (k : Int) : S25 := if v.f0 = 0 then ⟨k, false, 0, ⟨#[]⟩, [], []⟩ else v
/-- set's end: the item of y is put -/
def cset3 (s : S95) (v : S25) (k : Int) (y : S25) : Option (S25 × Int) :=
  if k = 6 then (cput v s.f0 y).bind fun p => some (p, 0)
  else if v.f4.length ≤ 1000000 then
    (if s.f1 = (v.f4.length : Int) then some (⟨5, false, 0, ⟨#[]⟩, v.f4 ++ [y], []⟩, 0)
     else if 0 ≤ s.f1 ∧ s.f1 < (v.f4.length : Int) then some (⟨5, false, 0, ⟨#[]⟩, v.f4.set s.f1.toNat y, []⟩, 0) else none)
  else none
def cset2 (rec_ : S25 → Option (S25 × Int)) (s : S95) (v : S25) (k : Int) : Option (S25 × Int) :=
  (cfollow v s).bind fun o => (rec_ o.1).bind fun y => if y.2 = 0 then cset3 s v k y.1 else some (z25, y.2)
def cset1 (rec_ : S25 → Option (S25 × Int)) (s : S95) (v : S25) (k : Int) : Option (S25 × Int) :=
  if v.f0 = k then (if k = 5 ∧ (v.f4.length : Int) < s.f1 then some (z25, 2) else cset2 rec_ s v k) else some (z25, 10)
def cset : List S95 → S25 → S25 → Option (S25 × Int)
  | [], _, x => some (x, 0)
  | s :: l, v, x => cset1 (fun o => cset l o x) s (cval v (ckind s)) (ckind s)
set_option maxHeartbeats 4000000 in
set_option maxRecDepth 100000 in
theorem set_calls : ∀ (l : List S95) (v : S25) (A4 : Option Addr) (c4 : Nat) (A5 : Option Addr) (c5 : Nat) (A1 : Option Addr) (c1 : Nat) (x : S25) (B4 : Option Addr) (d4 : Nat) (B5 : Option Addr) (d5 : Nat) (r : S25 × Int) (w : World) (ok0 : Nat → Prop) (hv : RdF w ok0 v A4 c4 A5 c5) (hl : Kd.C k95 w A1 l.length l) (hc : l.length ≤ c1) (hx : RdF w ok0 x B4 d4 B5 d5) (h : cset l v x = some r),
    Calls Tryz.prog 20 #[.agg #[.int .i64 v.f0, .bool v.f1, .int .i64 v.f2, .string v.f3, .slice A4 v.f4.length c4, .slice A5 v.f5.length c5], .slice A1 l.length c1, .agg #[.int .i64 x.f0, .bool x.f1, .int .i64 x.f2, .string x.f3, .slice B4 x.f4.length d4, .slice B5 x.f5.length d5]] w fun e w' => ∃ E4 e4 E5 e5, e = .returned (.tuple #[.agg #[.int .i64 r.1.f0, .bool r.1.f1, .int .i64 r.1.f2, .string r.1.f3, .slice E4 r.1.f4.length e4, .slice E5 r.1.f5.length e5], .int .i64 r.2]) ∧ RdF w' (fun k => ok0 k ∨ w.heap.size ≤ k) r.1 E4 e4 E5 e5 ∧ Below w.heap.size w w' := by
  intro l
  induction l with
  | nil =>
    intro v A4 c4 A5 c5 A1 c1 x B4 d4 B5 d5 r w ok0 hv hl hc hx h
    have hu25 := Tryz.underlying25
    have HX := Aside0.mk hx
    clear hx hv hl
    rw [cset] at h
    injection h with h
    subst h
    go_enter Tryz.func20, Tryz.ntmps20
    go_upto_region 1 with (fail)
    have HB := Aside0.mk (show Below w.heap.size w (((w.alloc (.cells #[.int .i64 v.f0, .bool v.f1, .int .i64 v.f2, .string v.f3, .slice A4 v.f4.length c4, .slice A5 v.f5.length c5] 25)).alloc (.cells #[.int .i64 x.f0, .bool x.f1, .int .i64 x.f2, .string x.f3, .slice B4 x.f4.length d4, .slice B5 x.f5.length d5] 25)).alloc (.cells #[.int .i64 0, .bool false, .int .i64 0, .string ⟨#[]⟩, .slice none 0 0, .slice none 0 0] 25)) from below_alloc (below_alloc (below_alloc (Below.refl _ _) _) _) _)
    have BKbv : (w.alloc (.cells #[.int .i64 v.f0, .bool v.f1, .int .i64 v.f2, .string v.f3, .slice A4 v.f4.length c4, .slice A5 v.f5.length c5] 25)).heap[w.heap.size]? = some (.cells #[.int .i64 v.f0, .bool v.f1, .int .i64 v.f2, .string v.f3, .slice A4 v.f4.length c4, .slice A5 v.f5.length c5] 25 (0, 0)) := by
      have h_ := blk_new w (.cells #[.int .i64 v.f0, .bool v.f1, .int .i64 v.f2, .string v.f3, .slice A4 v.f4.length c4, .slice A5 v.f5.length c5] 25)
      simpa using h_
    replace BKbv := blk_alloc BKbv (.cells #[.int .i64 x.f0, .bool x.f1, .int .i64 x.f2, .string x.f3, .slice B4 x.f4.length d4, .slice B5 x.f5.length d5] 25)
    replace BKbv := blk_alloc BKbv (.cells #[.int .i64 0, .bool false, .int .i64 0, .string ⟨#[]⟩, .slice none 0 0, .slice none 0 0] 25)
    replace BKbv := Aside0.mk BKbv
    have BKbx : ((w.alloc (.cells #[.int .i64 v.f0, .bool v.f1, .int .i64 v.f2, .string v.f3, .slice A4 v.f4.length c4, .slice A5 v.f5.length c5] 25)).alloc (.cells #[.int .i64 x.f0, .bool x.f1, .int .i64 x.f2, .string x.f3, .slice B4 x.f4.length d4, .slice B5 x.f5.length d5] 25)).heap[w.heap.size + 1]? = some (.cells #[.int .i64 x.f0, .bool x.f1, .int .i64 x.f2, .string x.f3, .slice B4 x.f4.length d4, .slice B5 x.f5.length d5] 25 (0, 0)) := by
      have h_ := blk_new (w.alloc (.cells #[.int .i64 v.f0, .bool v.f1, .int .i64 v.f2, .string v.f3, .slice A4 v.f4.length c4, .slice A5 v.f5.length c5] 25)) (.cells #[.int .i64 x.f0, .bool x.f1, .int .i64 x.f2, .string x.f3, .slice B4 x.f4.length d4, .slice B5 x.f5.length d5] 25)
      simpa using h_
    replace BKbx := blk_alloc BKbx (.cells #[.int .i64 0, .bool false, .int .i64 0, .string ⟨#[]⟩, .slice none 0 0, .slice none 0 0] 25)
    replace BKbx := Aside0.mk BKbx
    have BKbr : (((w.alloc (.cells #[.int .i64 v.f0, .bool v.f1, .int .i64 v.f2, .string v.f3, .slice A4 v.f4.length c4, .slice A5 v.f5.length c5] 25)).alloc (.cells #[.int .i64 x.f0, .bool x.f1, .int .i64 x.f2, .string x.f3, .slice B4 x.f4.length d4, .slice B5 x.f5.length d5] 25)).alloc (.cells #[.int .i64 0, .bool false, .int .i64 0, .string ⟨#[]⟩, .slice none 0 0, .slice none 0 0] 25)).heap[w.heap.size + 1 + 1]? = some (.cells #[.int .i64 0, .bool false, .int .i64 0, .string ⟨#[]⟩, .slice none 0 0, .slice none 0 0] 25 (0, 0)) := by
      have h_ := blk_new ((w.alloc (.cells #[.int .i64 v.f0, .bool v.f1, .int .i64 v.f2, .string v.f3, .slice A4 v.f4.length c4, .slice A5 v.f5.length c5] 25)).alloc (.cells #[.int .i64 x.f0, .bool x.f1, .int .i64 x.f2, .string x.f3, .slice B4 x.f4.length d4, .slice B5 x.f5.length d5] 25)) (.cells #[.int .i64 0, .bool false, .int .i64 0, .string ⟨#[]⟩, .slice none 0 0, .slice none 0 0] 25)
      simpa using h_
    replace BKbr := Aside0.mk BKbr
    have Gbv : Aside0 (w.heap.size ≤ w.heap.size) := ⟨by omega⟩
    have Gbx : Aside0 (w.heap.size ≤ w.heap.size + 1) := ⟨by omega⟩
    have Nbvbx : w.heap.size ≠ w.heap.size + 1 := by omega
    have Lbvbx : w.heap.size < w.heap.size + 1 := by omega
    have Nbxbv : w.heap.size + 1 ≠ w.heap.size := by omega
    have Gbr : Aside0 (w.heap.size ≤ w.heap.size + 1 + 1) := ⟨by omega⟩
    have Nbvbr : w.heap.size ≠ w.heap.size + 1 + 1 := by omega
    have Lbvbr : w.heap.size < w.heap.size + 1 + 1 := by omega
    have Nbrbv : w.heap.size + 1 + 1 ≠ w.heap.size := by omega
    have Nbxbr : w.heap.size + 1 ≠ w.heap.size + 1 + 1 := by omega
    have Lbxbr : w.heap.size + 1 < w.heap.size + 1 + 1 := by omega
    have Nbrbx : w.heap.size + 1 + 1 ≠ w.heap.size + 1 := by omega
    generalize (((w.alloc (.cells #[.int .i64 v.f0, .bool v.f1, .int .i64 v.f2, .string v.f3, .slice A4 v.f4.length c4, .slice A5 v.f5.length c5] 25)).alloc (.cells #[.int .i64 x.f0, .bool x.f1, .int .i64 x.f2, .string x.f3, .slice B4 x.f4.length d4, .slice B5 x.f5.length d5] 25)).alloc (.cells #[.int .i64 0, .bool false, .int .i64 0, .string ⟨#[]⟩, .slice none 0 0, .slice none 0 0] 25)) = W at HB BKbv BKbx BKbr ⊢
    generalize w.heap.size + 1 + 1 = br at BKbr Gbr Nbrbv Nbvbr Lbvbr Nbrbx Nbxbr Lbxbr ⊢
    generalize w.heap.size + 1 = bx at BKbx Gbx Nbxbv Nbvbx Lbvbx Nbxbr Nbrbx Lbxbr ⊢
    have yx_0 : W.cell? ⟨bx, 0, none⟩ = some (.int .i64 x.f0) := (blk_cell BKbx.out 0).trans rfl
    have yx_1 : W.cell? ⟨bx, 1, none⟩ = some (.bool x.f1) := (blk_cell BKbx.out 1).trans rfl
    have yx_2 : W.cell? ⟨bx, 2, none⟩ = some (.int .i64 x.f2) := (blk_cell BKbx.out 2).trans rfl
    have yx_3 : W.cell? ⟨bx, 3, none⟩ = some (.string x.f3) := (blk_cell BKbx.out 3).trans rfl
    have yx_4 : W.cell? ⟨bx, 4, none⟩ = some (.slice B4 x.f4.length d4) := (blk_cell BKbx.out 4).trans rfl
    have yx_5 : W.cell? ⟨bx, 5, none⟩ = some (.slice B5 x.f5.length d5) := (blk_cell BKbx.out 5).trans rfl
    have yr_0 : W.cell? ⟨br, 0, none⟩ = some (.int .i64 0) := (blk_cell BKbr.out 0).trans rfl
    have yr_1 : W.cell? ⟨br, 1, none⟩ = some (.bool false) := (blk_cell BKbr.out 1).trans rfl
    have yr_2 : W.cell? ⟨br, 2, none⟩ = some (.int .i64 0) := (blk_cell BKbr.out 2).trans rfl
    have yr_3 : W.cell? ⟨br, 3, none⟩ = some (.string ⟨#[]⟩) := (blk_cell BKbr.out 3).trans rfl
    have yr_4 : W.cell? ⟨br, 4, none⟩ = some (.slice none 0 0) := (blk_cell BKbr.out 4).trans rfl
    have yr_5 : W.cell? ⟨br, 5, none⟩ = some (.slice none 0 0) := (blk_cell BKbr.out 5).trans rfl
    have zr_0 := blk_frozen BKbr.out 0
    have zr_1 := blk_frozen BKbr.out 1
    have zr_2 := blk_frozen BKbr.out 2
    have zr_3 := blk_frozen BKbr.out 3
    have zr_4 := blk_frozen BKbr.out 4
    have zr_5 := blk_frozen BKbr.out 5
    go_wp2_with fail
    refine bodyPost_ret (results_ct rfl _ _ br 25 #[.int .i64 x.f0, .bool x.f1, .int .i64 x.f2, .string x.f3, .slice B4 x.f4.length d4, .slice B5 x.f5.length d5] (0, 0) _ rfl (put6 BKbr.out _ _ _ _ _ _) Tryz.underlying25 rfl (by kernel_rfl)) rfl ?_
    exact ⟨B4, d4, B5, d5, rfl, (HX.out.below (put6_below HB.out Gbr.out _ _ _ _ _ _)).mono (fun _ h => .inl h), put6_below HB.out Gbr.out _ _ _ _ _ _⟩
  | cons s l ih =>
    intro v A4 c4 A5 c5 A1 c1 x B4 d4 B5 d5 r w ok0 hv hl hc hx h
    have hu25 := Tryz.underlying25
    have hu95 := Tryz.underlying95
    have IH := Aside0.mk ih
    have HX := Aside0.mk hx
    have HV := Aside0.mk hv
    have HL := Aside0.mk hl
    rw [cset] at h
    have H := Aside0.mk h
    clear hx hv h ih
    obtain ⟨pa, rfl, x0, x1, x2⟩ := at_T95 hl 0 (Int.le_refl _) (by simp)
    have es : rd_T95 (s :: l) 0 = s := rfl
    rw [es] at x0 x1 x2
    simp only [Int.toNat_zero, Nat.zero_mul] at x0 x1 x2
    have hz : pa.add 0 = pa := by unfold Addr.add; rfl
    rw [hz] at x0 x1 x2
    clear hz
    clear hl es
    have ln : (s :: l).length = l.length + 1 := rfl
    rw [ln] at hc ⊢
    have ll : (1 : Int) ≤ (l.length : Int) + 1 := by omega
    go_enter Tryz.func20, Tryz.ntmps20
    go_upto_region 1 with (fail)
    have HB := Aside0.mk (show Below w.heap.size w (((w.alloc (.cells #[.int .i64 v.f0, .bool v.f1, .int .i64 v.f2, .string v.f3, .slice A4 v.f4.length c4, .slice A5 v.f5.length c5] 25)).alloc (.cells #[.int .i64 x.f0, .bool x.f1, .int .i64 x.f2, .string x.f3, .slice B4 x.f4.length d4, .slice B5 x.f5.length d5] 25)).alloc (.cells #[.int .i64 0, .bool false, .int .i64 0, .string ⟨#[]⟩, .slice none 0 0, .slice none 0 0] 25)) from below_alloc (below_alloc (below_alloc (Below.refl _ _) _) _) _)
    have BKbv : (w.alloc (.cells #[.int .i64 v.f0, .bool v.f1, .int .i64 v.f2, .string v.f3, .slice A4 v.f4.length c4, .slice A5 v.f5.length c5] 25)).heap[w.heap.size]? = some (.cells #[.int .i64 v.f0, .bool v.f1, .int .i64 v.f2, .string v.f3, .slice A4 v.f4.length c4, .slice A5 v.f5.length c5] 25 (0, 0)) := by
      have h_ := blk_new w (.cells #[.int .i64 v.f0, .bool v.f1, .int .i64 v.f2, .string v.f3, .slice A4 v.f4.length c4, .slice A5 v.f5.length c5] 25)
      simpa using h_
    replace BKbv := blk_alloc BKbv (.cells #[.int .i64 x.f0, .bool x.f1, .int .i64 x.f2, .string x.f3, .slice B4 x.f4.length d4, .slice B5 x.f5.length d5] 25)
    replace BKbv := blk_alloc BKbv (.cells #[.int .i64 0, .bool false, .int .i64 0, .string ⟨#[]⟩, .slice none 0 0, .slice none 0 0] 25)
    replace BKbv := Aside0.mk BKbv
    have BKbx : ((w.alloc (.cells #[.int .i64 v.f0, .bool v.f1, .int .i64 v.f2, .string v.f3, .slice A4 v.f4.length c4, .slice A5 v.f5.length c5] 25)).alloc (.cells #[.int .i64 x.f0, .bool x.f1, .int .i64 x.f2, .string x.f3, .slice B4 x.f4.length d4, .slice B5 x.f5.length d5] 25)).heap[w.heap.size + 1]? = some (.cells #[.int .i64 x.f0, .bool x.f1, .int .i64 x.f2, .string x.f3, .slice B4 x.f4.length d4, .slice B5 x.f5.length d5] 25 (0, 0)) := by
      have h_ := blk_new (w.alloc (.cells #[.int .i64 v.f0, .bool v.f1, .int .i64 v.f2, .string v.f3, .slice A4 v.f4.length c4, .slice A5 v.f5.length c5] 25)) (.cells #[.int .i64 x.f0, .bool x.f1, .int .i64 x.f2, .string x.f3, .slice B4 x.f4.length d4, .slice B5 x.f5.length d5] 25)
      simpa using h_
    replace BKbx := blk_alloc BKbx (.cells #[.int .i64 0, .bool false, .int .i64 0, .string ⟨#[]⟩, .slice none 0 0, .slice none 0 0] 25)
    replace BKbx := Aside0.mk BKbx
    have BKbr : (((w.alloc (.cells #[.int .i64 v.f0, .bool v.f1, .int .i64 v.f2, .string v.f3, .slice A4 v.f4.length c4, .slice A5 v.f5.length c5] 25)).alloc (.cells #[.int .i64 x.f0, .bool x.f1, .int .i64 x.f2, .string x.f3, .slice B4 x.f4.length d4, .slice B5 x.f5.length d5] 25)).alloc (.cells #[.int .i64 0, .bool false, .int .i64 0, .string ⟨#[]⟩, .slice none 0 0, .slice none 0 0] 25)).heap[w.heap.size + 1 + 1]? = some (.cells #[.int .i64 0, .bool false, .int .i64 0, .string ⟨#[]⟩, .slice none 0 0, .slice none 0 0] 25 (0, 0)) := by
      have h_ := blk_new ((w.alloc (.cells #[.int .i64 v.f0, .bool v.f1, .int .i64 v.f2, .string v.f3, .slice A4 v.f4.length c4, .slice A5 v.f5.length c5] 25)).alloc (.cells #[.int .i64 x.f0, .bool x.f1, .int .i64 x.f2, .string x.f3, .slice B4 x.f4.length d4, .slice B5 x.f5.length d5] 25)) (.cells #[.int .i64 0, .bool false, .int .i64 0, .string ⟨#[]⟩, .slice none 0 0, .slice none 0 0] 25)
      simpa using h_
    replace BKbr := Aside0.mk BKbr
    have Gbv : Aside0 (w.heap.size ≤ w.heap.size) := ⟨by omega⟩
    have Gbx : Aside0 (w.heap.size ≤ w.heap.size + 1) := ⟨by omega⟩
    have Nbvbx : w.heap.size ≠ w.heap.size + 1 := by omega
    have Lbvbx : w.heap.size < w.heap.size + 1 := by omega
    have Nbxbv : w.heap.size + 1 ≠ w.heap.size := by omega
    have Gbr : Aside0 (w.heap.size ≤ w.heap.size + 1 + 1) := ⟨by omega⟩
    have Nbvbr : w.heap.size ≠ w.heap.size + 1 + 1 := by omega
    have Lbvbr : w.heap.size < w.heap.size + 1 + 1 := by omega
    have Nbrbv : w.heap.size + 1 + 1 ≠ w.heap.size := by omega
    have Nbxbr : w.heap.size + 1 ≠ w.heap.size + 1 + 1 := by omega
    have Lbxbr : w.heap.size + 1 < w.heap.size + 1 + 1 := by omega
    have Nbrbx : w.heap.size + 1 + 1 ≠ w.heap.size + 1 := by omega
    generalize (((w.alloc (.cells #[.int .i64 v.f0, .bool v.f1, .int .i64 v.f2, .string v.f3, .slice A4 v.f4.length c4, .slice A5 v.f5.length c5] 25)).alloc (.cells #[.int .i64 x.f0, .bool x.f1, .int .i64 x.f2, .string x.f3, .slice B4 x.f4.length d4, .slice B5 x.f5.length d5] 25)).alloc (.cells #[.int .i64 0, .bool false, .int .i64 0, .string ⟨#[]⟩, .slice none 0 0, .slice none 0 0] 25)) = W at HB BKbv BKbx BKbr ⊢
    generalize w.heap.size + 1 + 1 = br at BKbr Gbr Nbrbv Nbvbr Lbvbr Nbrbx Nbxbr Lbxbr ⊢
    generalize w.heap.size + 1 = bx at BKbx Gbx Nbxbv Nbvbx Lbvbx Nbxbr Nbrbx Lbxbr ⊢
    replace x0 := (HB.out.cell (World.block_lt_of_cell? w _ x0)).trans x0
    replace x1 := (HB.out.cell (World.block_lt_of_cell? w _ x1)).trans x1
    replace x2 := (HB.out.cell (World.block_lt_of_cell? w _ x2)).trans x2
    go_upto_region 5 with ((with_reducible refine gate_dst (N := 8) rfl ?_); refine box_event ?hg (N := 8) ?hd (cs := #[.string ⟨#[]⟩, .int .i64 0, .bool false]) (t := 95) ?hr ?_; (case hd => rfl); (case hg => rfl); (case hr => first | (go_simp; done) | (go_simp; rfl)); intro bs hbs W3 hbox hb; have BKs := Aside0.mk hbox; have HBS := Aside0.mk hbs; have BKt := Aside0.mk (blk_below BKbv.out hb); have BKx := Aside0.mk (blk_below BKbx.out hb); have BKr := Aside0.mk (blk_below BKbr.out hb); have HB3 := Aside0.mk (below_step HB.out hb); have ys_0 : W3.cell? ⟨bs, 0, none⟩ = some (.string ⟨#[]⟩) := (blk_cell BKs.out 0).trans rfl; have ys_1 : W3.cell? ⟨bs, 1, none⟩ = some (.int .i64 0) := (blk_cell BKs.out 1).trans rfl; have ys_2 : W3.cell? ⟨bs, 2, none⟩ = some (.bool false) := (blk_cell BKs.out 2).trans rfl; have zs_0 := blk_frozen BKs.out 0; have zs_1 := blk_frozen BKs.out 1; have zs_2 := blk_frozen BKs.out 2; clear hbs hbox hb)
    have Ls : br < bs := by rw [HBS.out]; exact blk_lt BKbr.out
    have hss : w.heap.size ≤ bs := by omega
    have HP := Aside0.mk (show SetAt w bx br bs #[.int .i64 v.f0, .bool v.f1, .int .i64 v.f2, .string v.f3, .slice A4 v.f4.length c4, .slice A5 v.f5.length c5] #[.int .i64 x.f0, .bool x.f1, .int .i64 x.f2, .string x.f3, .slice B4 x.f4.length d4, .slice B5 x.f5.length d5] #[.string s.f0, .int .i64 s.f1, .bool s.f2] (((W3.setCell ⟨bs, 0, none⟩ (.string s.f0)).setCell ⟨bs, 1, none⟩ (.int .i64 s.f1)).setCell ⟨bs, 2, none⟩ (.bool s.f2)) from ⟨put3_far BKt.out (by omega) _ _ _, put3_far BKx.out (by omega) _ _ _, put3_far BKr.out (by omega) _ _ _, put3 BKs.out _ _ _, below_set (below_set (below_set HB3.out hss) hss) hss, Lbvbx, Lbxbr, Ls⟩)
    clear ys_0 ys_1 ys_2 zs_0 zs_1 zs_2 BKs BKt BKx BKr HB3 HBS BKbv BKbx BKbr HB Nbvbx Nbxbv Nbvbr Nbrbv Nbxbr Nbrbx Gbv Gbx Gbr Lbvbr x0 x1 x2
    generalize (((W3.setCell ⟨bs, 0, none⟩ (.string s.f0)).setCell ⟨bs, 1, none⟩ (.int .i64 s.f1)).setCell ⟨bs, 2, none⟩ (.bool s.f2)) = W4 at HP ⊢
    have ys0 : W4.cell? ⟨bs, 0, none⟩ = some (.string s.f0) := (blk_cell HP.out.S 0).trans rfl
    go_upto_if 24 with (fail)
    (try simp only [Act.put, List.setIfInBounds_toArray, List.set_cons_zero, List.set_cons_succ])
    go_cut [9] (fun v9 wc => v9 = .int .i64 (ckind s) ∧ Aside0 (SetAt w bx br bs #[.int .i64 v.f0, .bool v.f1, .int .i64 v.f2, .string v.f3, .slice A4 v.f4.length c4, .slice A5 v.f5.length c5] #[.int .i64 x.f0, .bool x.f1, .int .i64 x.f2, .string x.f3, .slice B4 x.f4.length d4, .slice B5 x.f5.length d5] #[.string s.f0, .int .i64 s.f1, .bool s.f2] wc))
    case first =>
      by_cases c1 : s.f0.toList = []
      · have e1 : (s.f0.toList == []) = true := beq_iff_eq.2 c1
        have e2 : (s.f0.toList != []) = false := bne_eq_false_iff_eq.2 c1
        have e3 : s.f0.toList.isEmpty = true := List.isEmpty_iff.2 c1
        have ek : ckind s = 5 := if_pos c1
        have EK := Aside0.mk ek
        clear ek
        rw [e3]
        go_wp2_with fail
        go_meet
        case rel => exact ⟨by rw [EK.out], HP⟩
      · have e1 : (s.f0.toList == []) = false := beq_eq_false_iff_ne.2 c1
        have e2 : (s.f0.toList != []) = true := bne_iff_ne.2 c1
        have e3 : s.f0.toList.isEmpty = false := by simpa using c1
        have ek : ckind s = 6 := if_neg c1
        have EK := Aside0.mk ek
        clear ek
        rw [e3]
        go_wp2_with fail
        go_meet
        case rel => exact ⟨by rw [EK.out], HP⟩
    case rest =>
      clear HP ys0
      obtain ⟨rfl, HP⟩ := hcut
      have kd56 : ckind s = 5 ∨ ckind s = 6 := by unfold ckind; split <;> simp
      generalize ckind s = kd at *
      have yv0 : wc.cell? ⟨w.heap.size, 0, none⟩ = some (.int .i64 v.f0) := (blk_cell HP.out.V 0).trans rfl
      have yv1 : wc.cell? ⟨w.heap.size, 1, none⟩ = some (.bool v.f1) := (blk_cell HP.out.V 1).trans rfl
      have yv2 : wc.cell? ⟨w.heap.size, 2, none⟩ = some (.int .i64 v.f2) := (blk_cell HP.out.V 2).trans rfl
      have yv3 : wc.cell? ⟨w.heap.size, 3, none⟩ = some (.string v.f3) := (blk_cell HP.out.V 3).trans rfl
      have yv4 : wc.cell? ⟨w.heap.size, 4, none⟩ = some (.slice A4 v.f4.length c4) := (blk_cell HP.out.V 4).trans rfl
      have yv5 : wc.cell? ⟨w.heap.size, 5, none⟩ = some (.slice A5 v.f5.length c5) := (blk_cell HP.out.V 5).trans rfl
      have zv0 := blk_frozen HP.out.V 0
      have zv1 := blk_frozen HP.out.V 1
      have zv2 := blk_frozen HP.out.V 2
      have zv3 := blk_frozen HP.out.V 3
      have zv4 := blk_frozen HP.out.V 4
      have zv5 := blk_frozen HP.out.V 5
      go_upto_if 27 with (fail)
      (try simp only [Act.put, List.setIfInBounds_toArray, List.set_cons_zero, List.set_cons_succ])
      go_cut [] (fun wc => ∃ F4 f4 F5 f5, Aside0 (RdF w ok0 (cval v kd) F4 f4 F5 f5) ∧ Aside0 (SetAt w bx br bs #[.int .i64 (cval v kd).f0, .bool (cval v kd).f1, .int .i64 (cval v kd).f2, .string (cval v kd).f3, .slice F4 (cval v kd).f4.length f4, .slice F5 (cval v kd).f5.length f5] #[.int .i64 x.f0, .bool x.f1, .int .i64 x.f2, .string x.f3, .slice B4 x.f4.length d4, .slice B5 x.f5.length d5] #[.string s.f0, .int .i64 s.f1, .bool s.f2] wc))
      case first =>
        by_cases c2 : v.f0 = 0
        · have e1 : (v.f0 == 0) = true := beq_iff_eq.2 c2
          have e2 : (v.f0 != 0) = false := bne_eq_false_iff_eq.2 c2
          have EV := Aside0.mk (show cval v kd = ⟨kd, false, 0, ⟨#[]⟩, [], []⟩ from if_pos c2)
          clear c2
          (first | rw [e1] | rw [e2] | skip)
          go_wp2_with fail
          go_meet
          case rel => exact ⟨none, 0, none, 0, ⟨by rw [EV.out]; exact RdF.nil _ _ _ _ _ _⟩, ⟨by rw [EV.out]; exact HP.out.setV _ _ _ _ _ _⟩⟩
        · have e1 : (v.f0 == 0) = false := beq_eq_false_iff_ne.2 c2
          have e2 : (v.f0 != 0) = true := bne_iff_ne.2 c2
          have EV := Aside0.mk (show cval v kd = v from if_neg c2)
          clear c2
          (first | rw [e1] | rw [e2] | skip)
          go_wp2_with fail
          go_meet
          case rel => exact ⟨A4, c4, A5, c5, ⟨by rw [EV.out]; exact HV.out⟩, ⟨by rw [EV.out]; exact HP.out⟩⟩
      case rest =>
        clear HP yv0 yv1 yv2 yv3 yv4 yv5 zv0 zv1 zv2 zv3 zv4 zv5 HV
        obtain ⟨F4, f4, F5, f5, HV, HP⟩ := hcut
        generalize cval v kd = u at *
        have yu0 : wc.cell? ⟨w.heap.size, 0, none⟩ = some (.int .i64 u.f0) := (blk_cell HP.out.V 0).trans rfl
        by_cases c3 : u.f0 = kd
        case neg =>
          have H1 := H.out
          rw [cset1, if_neg c3] at H1
          injection H1 with H1
          subst H1
          have e1 : (u.f0 == kd) = false := beq_eq_false_iff_ne.2 c3
          have e2 : (u.f0 != kd) = true := bne_iff_ne.2 c3
          have yr0 : wc.cell? ⟨br, 0, none⟩ = some (.int .i64 0) := (blk_cell HP.out.R 0).trans rfl
          have yr1 : wc.cell? ⟨br, 1, none⟩ = some (.bool false) := (blk_cell HP.out.R 1).trans rfl
          have yr2 : wc.cell? ⟨br, 2, none⟩ = some (.int .i64 0) := (blk_cell HP.out.R 2).trans rfl
          have yr3 : wc.cell? ⟨br, 3, none⟩ = some (.string ⟨#[]⟩) := (blk_cell HP.out.R 3).trans rfl
          have yr4 : wc.cell? ⟨br, 4, none⟩ = some (.slice none 0 0) := (blk_cell HP.out.R 4).trans rfl
          have yr5 : wc.cell? ⟨br, 5, none⟩ = some (.slice none 0 0) := (blk_cell HP.out.R 5).trans rfl
          have zr0 := blk_frozen HP.out.R 0
          have zr1 := blk_frozen HP.out.R 1
          have zr2 := blk_frozen HP.out.R 2
          have zr3 := blk_frozen HP.out.R 3
          have zr4 := blk_frozen HP.out.R 4
          have zr5 := blk_frozen HP.out.R 5
          have Gbr : w.heap.size ≤ br := by have := HP.out.h1; have := HP.out.h2; omega
          go_wp2_with fail
          refine bodyPost_ret (results_ct rfl _ _ br 25 #[.int .i64 0, .bool false, .int .i64 0, .string ⟨#[]⟩, .slice none 0 0, .slice none 0 0] (0, 0) _ rfl (put6 HP.out.R _ _ _ _ _ _) Tryz.underlying25 rfl (by kernel_rfl)) rfl ?_
          exact ⟨none, 0, none, 0, rfl, RdF.nil _ _ _ _ _ _, put6_below HP.out.B Gbr _ _ _ _ _ _⟩
        subst c3
        have H1 := H.out
        rw [cset1, if_pos rfl] at H1
        have e1 : (u.f0 == u.f0) = true := beq_self_eq_true _
        have e2 : (u.f0 != u.f0) = false := bne_self_eq_false _
        have yu4 : wc.cell? ⟨w.heap.size, 4, none⟩ = some (.slice F4 u.f4.length f4) := (blk_cell HP.out.V 4).trans rfl
        have ys1 : wc.cell? ⟨bs, 1, none⟩ = some (.int .i64 s.f1) := (blk_cell HP.out.S 1).trans rfl
        by_cases c4 : u.f0 = 5 ∧ (u.f4.length : Int) < s.f1
        case pos =>
          rw [if_pos c4] at H1
          injection H1 with H1
          subst H1
          obtain ⟨k5, k6⟩ := c4
          have e3 : decide (s.f1 > (u.f4.length : Int)) = true := decide_eq_true k6
          have e4 : decide ((u.f4.length : Int) < s.f1) = true := decide_eq_true k6
          have e5 : (u.f0 == 5) = true := beq_iff_eq.2 k5
          have yr0 : wc.cell? ⟨br, 0, none⟩ = some (.int .i64 0) := (blk_cell HP.out.R 0).trans rfl
          have yr1 : wc.cell? ⟨br, 1, none⟩ = some (.bool false) := (blk_cell HP.out.R 1).trans rfl
          have yr2 : wc.cell? ⟨br, 2, none⟩ = some (.int .i64 0) := (blk_cell HP.out.R 2).trans rfl
          have yr3 : wc.cell? ⟨br, 3, none⟩ = some (.string ⟨#[]⟩) := (blk_cell HP.out.R 3).trans rfl
          have yr4 : wc.cell? ⟨br, 4, none⟩ = some (.slice none 0 0) := (blk_cell HP.out.R 4).trans rfl
          have yr5 : wc.cell? ⟨br, 5, none⟩ = some (.slice none 0 0) := (blk_cell HP.out.R 5).trans rfl
          have zr0 := blk_frozen HP.out.R 0
          have zr1 := blk_frozen HP.out.R 1
          have zr2 := blk_frozen HP.out.R 2
          have zr3 := blk_frozen HP.out.R 3
          have zr4 := blk_frozen HP.out.R 4
          have zr5 := blk_frozen HP.out.R 5
          have Gbr : w.heap.size ≤ br := by have := HP.out.h1; have := HP.out.h2; omega
          go_wp2_with fail
          refine bodyPost_ret (results_ct rfl _ _ br 25 #[.int .i64 0, .bool false, .int .i64 0, .string ⟨#[]⟩, .slice none 0 0, .slice none 0 0] (0, 0) _ rfl (put6 HP.out.R _ _ _ _ _ _) Tryz.underlying25 rfl (by kernel_rfl)) rfl ?_
          exact ⟨none, 0, none, 0, rfl, RdF.nil _ _ _ _ _ _, put6_below HP.out.B Gbr _ _ _ _ _ _⟩
        rw [if_neg c4] at H1
        have H2 := Aside0.mk H1
        clear H1 H
        go_upto_region 11 with (fail)
        go_cut [44] (fun v44 wc => v44 = .bool false ∧ Aside0 (SetAt w bx br bs #[.int .i64 u.f0, .bool u.f1, .int .i64 u.f2, .string u.f3, .slice F4 u.f4.length f4, .slice F5 u.f5.length f5] #[.int .i64 x.f0, .bool x.f1, .int .i64 x.f2, .string x.f3, .slice B4 x.f4.length d4, .slice B5 x.f5.length d5] #[.string s.f0, .int .i64 s.f1, .bool s.f2] wc))
        case first =>
          rcases kd56 with k5 | k5
          · have e3 : decide ((u.f4.length : Int) < s.f1) = false := decide_eq_false (fun h => c4 ⟨k5, h⟩)
            have e5 : (u.f0 == 5) = true := beq_iff_eq.2 k5
            go_wp2_with fail
            go_meet
            case rel => exact ⟨rfl, HP⟩
          · have e5 : (u.f0 == 5) = false := beq_eq_false_iff_ne.2 (by omega)
            go_wp2_with fail
            go_meet
            case rel => exact ⟨rfl, HP⟩
        case rest =>
          clear HP yu0 yu4 ys1
          obtain ⟨rfl, HP⟩ := hcut
          obtain ⟨o1, ho1, H3⟩ := Option.bind_eq_some_iff.1 H2.out
          obtain ⟨y1, hy1, H4⟩ := Option.bind_eq_some_iff.1 H3
          have HO1 := Aside0.mk ho1
          have HY1 := Aside0.mk hy1
          have HE := Aside0.mk H4
          clear H2 ho1 H3 hy1 H4 c4 e1 e2
          have yu0 : wc.cell? ⟨w.heap.size, 0, none⟩ = some (.int .i64 u.f0) := (blk_cell HP.out.V 0).trans rfl
          have yu1 : wc.cell? ⟨w.heap.size, 1, none⟩ = some (.bool u.f1) := (blk_cell HP.out.V 1).trans rfl
          have yu2 : wc.cell? ⟨w.heap.size, 2, none⟩ = some (.int .i64 u.f2) := (blk_cell HP.out.V 2).trans rfl
          have yu3 : wc.cell? ⟨w.heap.size, 3, none⟩ = some (.string u.f3) := (blk_cell HP.out.V 3).trans rfl
          have yu4 : wc.cell? ⟨w.heap.size, 4, none⟩ = some (.slice F4 u.f4.length f4) := (blk_cell HP.out.V 4).trans rfl
          have yu5 : wc.cell? ⟨w.heap.size, 5, none⟩ = some (.slice F5 u.f5.length f5) := (blk_cell HP.out.V 5).trans rfl
          have ys0 : wc.cell? ⟨bs, 0, none⟩ = some (.string s.f0) := (blk_cell HP.out.S 0).trans rfl
          have ys1 : wc.cell? ⟨bs, 1, none⟩ = some (.int .i64 s.f1) := (blk_cell HP.out.S 1).trans rfl
          have ys2 : wc.cell? ⟨bs, 2, none⟩ = some (.bool s.f2) := (blk_cell HP.out.S 2).trans rfl
          go_upto_region 14 with (first | (go_at_call 49; refine (follow_calls u F4 f4 F5 f5 s o1 _ (fun k => ok0 k ∧ k < w.heap.size) (HV.out.bound.below HP.out.B).K HO1.out).mono ?_; rintro e W5 ⟨G4, g4, G5, g5, rfl, hro, hb⟩; have n1 := Aside0.mk (HP.out.below hb); clear HP hb; have HP := n1; clear n1; have HRO := Aside0.mk hro; clear hro; have HB5 := Aside0.mk (Below.refl W5.heap.size W5)) | ((with_reducible refine gate_dst (N := 10) rfl ?_); refine box_event ?hg (N := 10) ?hd (cs := #[.int .i64 0, .bool false, .int .i64 0, .string ⟨#[]⟩, .slice none 0 0, .slice none 0 0]) (t := 25) ?hr ?_; (case hd => rfl); (case hg => rfl); (case hr => first | (go_simp; done) | (go_simp; rfl)); intro bo hbo W6 hbox hb; have BKo := Aside0.mk hbox; have HBO := Aside0.mk hbo; have LBO := Aside0.mk (show bs < bo by rw [hbo]; exact blk_lt HP.out.S); have n1 := Aside0.mk (HP.out.below hb); clear HP; have HP := n1; clear n1; have n2 := Aside0.mk (below_step HB5.out hb); clear HB5; have HB5 := n2; clear n2; have yo_0 : W6.cell? ⟨bo, 0, none⟩ = some (.int .i64 0) := (blk_cell BKo.out 0).trans rfl; have yo_1 : W6.cell? ⟨bo, 1, none⟩ = some (.bool false) := (blk_cell BKo.out 1).trans rfl; have yo_2 : W6.cell? ⟨bo, 2, none⟩ = some (.int .i64 0) := (blk_cell BKo.out 2).trans rfl; have yo_3 : W6.cell? ⟨bo, 3, none⟩ = some (.string ⟨#[]⟩) := (blk_cell BKo.out 3).trans rfl; have yo_4 : W6.cell? ⟨bo, 4, none⟩ = some (.slice none 0 0) := (blk_cell BKo.out 4).trans rfl; have yo_5 : W6.cell? ⟨bo, 5, none⟩ = some (.slice none 0 0) := (blk_cell BKo.out 5).trans rfl; have zo_0 := blk_frozen BKo.out 0; have zo_1 := blk_frozen BKo.out 1; have zo_2 := blk_frozen BKo.out 2; have zo_3 := blk_frozen BKo.out 3; have zo_4 := blk_frozen BKo.out 4; have zo_5 := blk_frozen BKo.out 5; clear hbo hbox hb))
          have n0 := Aside0.mk (HP.out.box LBO.out (.int .i64 o1.1.f0) (.bool o1.1.f1) (.int .i64 o1.1.f2) (.string o1.1.f3) (.slice G4 o1.1.f4.length g4) (.slice G5 o1.1.f5.length g5))
          have n1 := Aside0.mk (put6 BKo.out (.int .i64 o1.1.f0) (.bool o1.1.f1) (.int .i64 o1.1.f2) (.string o1.1.f3) (.slice G4 o1.1.f4.length g4) (.slice G5 o1.1.f5.length g5))
          have n2 := Aside0.mk (put6_below HB5.out (Nat.le_of_eq HBO.out.symm) (.int .i64 o1.1.f0) (.bool o1.1.f1) (.int .i64 o1.1.f2) (.string o1.1.f3) (.slice G4 o1.1.f4.length g4) (.slice G5 o1.1.f5.length g5))
          clear HP BKo HB5
          have HP := n0
          have BKo := n1
          have HB5 := n2
          clear n0 n1 n2
          clear yo_0 yo_1 yo_2 yo_3 yo_4 yo_5 zo_0 zo_1 zo_2 zo_3 zo_4 zo_5 yu0 yu1 yu2 yu3 yu4 yu5 ys0 ys1 ys2
          generalize ((((((W6.setCell ⟨bo, 0, none⟩ (.int .i64 o1.1.f0)).setCell ⟨bo, 1, none⟩ (.bool o1.1.f1)).setCell ⟨bo, 2, none⟩ (.int .i64 o1.1.f2)).setCell ⟨bo, 3, none⟩ (.string o1.1.f3)).setCell ⟨bo, 4, none⟩ (.slice G4 o1.1.f4.length g4)).setCell ⟨bo, 5, none⟩ (.slice G5 o1.1.f5.length g5)) = W7 at HP BKo HB5 ⊢
          have n0 := Aside0.mk (HP.out.below (below_drew (Below.refl _ W7)))
          have n1 := Aside0.mk (show W7.drew.heap[bo]? = _ from BKo.out)
          have n2 := Aside0.mk (below_step HB5.out (below_drew (Below.refl _ W7)))
          clear HP BKo HB5
          have HP := n0
          have BKo := n1
          have HB5 := n2
          clear n0 n1 n2
          refine start_ (n := 11) (S := fun w' => w'.cell? ⟨bo, 0, none⟩ = some (.int .i64 o1.1.f0) ∧ w'.cell? ⟨bo, 1, none⟩ = some (.bool o1.1.f1) ∧ w'.cell? ⟨bo, 2, none⟩ = some (.int .i64 o1.1.f2) ∧ w'.cell? ⟨bo, 3, none⟩ = some (.string o1.1.f3) ∧ w'.cell? ⟨bo, 4, none⟩ = some (.slice G4 o1.1.f4.length g4) ∧ w'.cell? ⟨bo, 5, none⟩ = some (.slice G5 o1.1.f5.length g5) ∧ w'.cell? ⟨bx, 0, none⟩ = some (.int .i64 x.f0) ∧ w'.cell? ⟨bx, 1, none⟩ = some (.bool x.f1) ∧ w'.cell? ⟨bx, 2, none⟩ = some (.int .i64 x.f2) ∧ w'.cell? ⟨bx, 3, none⟩ = some (.string x.f3) ∧ w'.cell? ⟨bx, 4, none⟩ = some (.slice B4 x.f4.length d4) ∧ w'.cell? ⟨bx, 5, none⟩ = some (.slice B5 x.f5.length d5)) (ds := [9]) #[false, false, false, false, false, false, false, false, false, false, false] (by kernel_rfl) rfl rfl ⟨(blk_cell BKo.out 0).trans rfl, (blk_cell BKo.out 1).trans rfl, (blk_cell BKo.out 2).trans rfl, (blk_cell BKo.out 3).trans rfl, (blk_cell BKo.out 4).trans rfl, (blk_cell BKo.out 5).trans rfl, (blk_cell HP.out.X 0).trans rfl, (blk_cell HP.out.X 1).trans rfl, (blk_cell HP.out.X 2).trans rfl, (blk_cell HP.out.X 3).trans rfl, (blk_cell HP.out.X 4).trans rfl, (blk_cell HP.out.X 5).trans rfl⟩ (fun hHeld => ?_)
          generalize W7.drew = W8 at HP BKo HB5 hHeld ⊢
          refine pure_ (i := 1) (N := some 54) (v := ?_) (a' := ?_) #[false, true, false, false, false, false, false, false, false, false, false] rfl rfl (by kernel_rfl) (fun _ _ _ h => h) (Or.inl ⟨by rfl, ?_⟩) ?_ ?_
          rotate_left
          · intro w'
            go_simp
            with_reducible rfl
          rotate_left
          · simp only [Act.put, List.setIfInBounds_toArray, List.set_cons_zero, List.set_cons_succ, i64_w, i32_w]
            rfl
          refine pure_ (i := 2) (N := some 55) (v := ?_) (a' := ?_) #[false, true, true, false, false, false, false, false, false, false, false] rfl rfl (by kernel_rfl) (fun _ _ _ h => h) (Or.inl ⟨by rfl, ?_⟩) ?_ ?_
          rotate_left
          · intro w'
            go_simp
            with_reducible rfl
          rotate_left
          · simp only [Act.put, List.setIfInBounds_toArray, List.set_cons_zero, List.set_cons_succ, i64_w, i32_w]
            rfl
          refine take_ (i := 0) (N := some 53) (v := ?_) (a' := ?_) #[true, true, true, false, false, false, false, false, false, false, false] rfl rfl (by kernel_rfl) (fun _ _ _ h => h) (Or.inl ⟨by rfl, ?_⟩) hHeld ?_ ?_
          rotate_left
          · rintro w' ⟨s0, s1, s2, s3, s4, s5, s6, s7, s8, s9, s10, s11⟩
            go_simp
            with_reducible rfl
          rotate_left
          · simp only [Act.put, List.setIfInBounds_toArray, List.set_cons_zero, List.set_cons_succ, i64_w, i32_w]
            rfl
          refine take_ (i := 3) (N := some 56) (v := ?_) (a' := ?_) #[true, true, true, true, false, false, false, false, false, false, false] rfl rfl (by kernel_rfl) (fun _ _ _ h => h) (Or.inl ⟨by rfl, ?_⟩) hHeld ?_ ?_
          rotate_left
          · rintro w' ⟨s0, s1, s2, s3, s4, s5, s6, s7, s8, s9, s10, s11⟩
            go_simp
            with_reducible rfl
          rotate_left
          · simp only [Act.put, List.setIfInBounds_toArray, List.set_cons_zero, List.set_cons_succ, i64_w, i32_w]
            rfl
          refine join_ (σ := Option Addr × Nat × Option Addr × Nat × Nat) 2 #[true, true, true, true, true, true, true, true, true, false, false] (fun q => [(57, .tuple #[.agg #[.int .i64 y1.1.f0, .bool y1.1.f1, .int .i64 y1.1.f2, .string y1.1.f3, .slice q.1 y1.1.f4.length q.2.1, .slice q.2.2.1 y1.1.f5.length q.2.2.2.1], .int .i64 y1.2]), (52, .tuple #[.agg #[.int .i64 y1.1.f0, .bool y1.1.f1, .int .i64 y1.1.f2, .string y1.1.f3, .slice q.1 y1.1.f4.length q.2.1, .slice q.2.2.1 y1.1.f5.length q.2.2.2.1], .int .i64 y1.2]), (58, .agg #[.int .i64 y1.1.f0, .bool y1.1.f1, .int .i64 y1.1.f2, .string y1.1.f3, .slice q.1 y1.1.f4.length q.2.1, .slice q.2.2.1 y1.1.f5.length q.2.2.2.1]), (59, .int .i64 y1.2), (12, .pointer (some ⟨q.2.2.2.2, 0, none⟩))]) (fun q w' => SetAt w bx br bs #[.int .i64 u.f0, .bool u.f1, .int .i64 u.f2, .string u.f3, .slice F4 u.f4.length f4, .slice F5 u.f5.length f5] #[.int .i64 x.f0, .bool x.f1, .int .i64 x.f2, .string x.f3, .slice B4 x.f4.length d4, .slice B5 x.f5.length d5] #[.string s.f0, .int .i64 s.f1, .bool s.f2] w' ∧ w'.heap[bo]? = some (.cells #[.int .i64 o1.1.f0, .bool o1.1.f1, .int .i64 o1.1.f2, .string o1.1.f3, .slice G4 o1.1.f4.length g4, .slice G5 o1.1.f5.length g5] 25 (0, 0)) ∧ w'.heap[q.2.2.2.2]? = some (.cells #[.int .i64 0, .bool false, .int .i64 0, .string ⟨#[]⟩, .slice none 0 0, .slice none 0 0] 25 (0, 0)) ∧ RdF w' (okY w ok0 bo q.2.2.2.2) y1.1 q.1 q.2.1 q.2.2.1 q.2.2.2.1 ∧ bo < q.2.2.2.2) ?_ ?_
          rotate_left
          · intro hCont
            refine two_ (i := 4) (j := 8) (Ni := some 57) (Nj := some 12) #[true, true, true, true, true, false, false, false, false, false, false] #[true, true, true, true, false, false, false, false, true, false, false] rfl rfl rfl rfl (by kernel_rfl) (by decide) (by decide) (fun K hK => ?_) (fun K hK => ?_)
            · skip
              refine goes_ Tryz.func20 (by kernel_rfl) rfl #[.agg #[.int .i64 o1.1.f0, .bool o1.1.f1, .int .i64 o1.1.f2, .string o1.1.f3, .slice G4 o1.1.f4.length g4, .slice G5 o1.1.f5.length g5], .slice (if c1 = 1 then some pa else some ⟨pa.block, pa.off + 3, none⟩) l.length (c1 - 1), .agg #[.int .i64 x.f0, .bool x.f1, .int .i64 x.f2, .string x.f3, .slice B4 x.f4.length d4, .slice B5 x.f5.length d5]] (by rfl) rfl rfl (by simp only [List.map_toArray, List.map_cons, List.map_nil]; rfl) ?_
              refine (IH.out o1.1 G4 g4 G5 g5 _ _ x B4 d4 B5 d5 y1 _ (fun k => ok0 k ∧ k < w.heap.size) (HRO.out.below HB5.out) ?sl (by omega) (HX.out.bound.below HP.out.B) HY1.out).mono ?_
              case sl => have h_ := Kd.C_below (Kd.C_drop HL.out (show 1 ≤ (s :: l).length by simp) (show (s :: l).length ≤ c1 from hc)) HP.out.B; simp only [List.drop_one, List.tail_cons, show k95.sz = 3 from rfl, Nat.one_mul] at h_; exact h_
              rintro e w9 ⟨J4, j4, J5, j5, rfl, hyr, hb⟩
              refine ⟨_, rfl, ?_⟩
              have lo_ := blk_lt BKo.out
              have HYR := Aside0.mk (hyr.mono (ok' := fun k => (ok0 k ∧ k < w.heap.size) ∨ bo < k) (fun k hk => hk.elim .inl (fun h_ => .inr (by omega))))
              have n0 := Aside0.mk (HP.out.below hb)
              have n1 := Aside0.mk (blk_below BKo.out hb)
              have n2 := Aside0.mk (below_step HB5.out hb)
              clear HP BKo HB5
              have HP := n0
              have BKo := n1
              have HB5 := n2
              clear n0 n1 n2
              clear hyr hb lo_
              refine hK.out _ _ ⟨(blk_cell BKo.out 0).trans rfl, (blk_cell BKo.out 1).trans rfl, (blk_cell BKo.out 2).trans rfl, (blk_cell BKo.out 3).trans rfl, (blk_cell BKo.out 4).trans rfl, (blk_cell BKo.out 5).trans rfl, (blk_cell HP.out.X 0).trans rfl, (blk_cell HP.out.X 1).trans rfl, (blk_cell HP.out.X 2).trans rfl, (blk_cell HP.out.X 3).trans rfl, (blk_cell HP.out.X 4).trans rfl, (blk_cell HP.out.X 5).trans rfl⟩ (fun hHeld => ?_)
              clear hK K
              refine norm_ (a' := ?_) ?_ ?_
              rotate_left
              · show Act.put _ (some 57) _ = _
                simp only [Act.put, List.setIfInBounds_toArray, List.set_cons_zero, List.set_cons_succ, i64_w, i32_w]
                rfl
              refine pure_ (i := 5) (N := some 52) (v := ?_) (a' := ?_) #[true, true, true, true, true, true, false, false, false, false, false] rfl rfl (by kernel_rfl) (fun _ _ _ h => h) (Or.inl ⟨by rfl, ?_⟩) ?_ ?_
              rotate_left
              · intro w'
                go_simp
                with_reducible rfl
              rotate_left
              · simp only [Act.put, List.setIfInBounds_toArray, List.set_cons_zero, List.set_cons_succ, i64_w, i32_w]
                rfl
              refine pure_ (i := 6) (N := some 58) (v := ?_) (a' := ?_) #[true, true, true, true, true, true, true, false, false, false, false] rfl rfl (by kernel_rfl) (fun _ _ _ h => h) (Or.inl ⟨by rfl, ?_⟩) ?_ ?_
              rotate_left
              · intro w'
                go_simp
                with_reducible rfl
              rotate_left
              · simp only [Act.put, List.setIfInBounds_toArray, List.set_cons_zero, List.set_cons_succ, i64_w, i32_w]
                rfl
              refine pure_ (i := 7) (N := some 59) (v := ?_) (a' := ?_) #[true, true, true, true, true, true, true, true, false, false, false] rfl rfl (by kernel_rfl) (fun _ _ _ h => h) (Or.inl ⟨by rfl, ?_⟩) ?_ ?_
              rotate_left
              · intro w'
                go_simp
                with_reducible rfl
              rotate_left
              · simp only [Act.put, List.setIfInBounds_toArray, List.set_cons_zero, List.set_cons_succ, i64_w, i32_w]
                rfl
              refine one_ (i := 8) (N := some 12) #[true, true, true, true, true, true, true, true, true, false, false] rfl rfl (by kernel_rfl) (by decide) (fun K hK => ?_)
              refine value_ (w1 := ?_) (v := ?_) (by rfl) rfl ?_ ?_
              rotate_left 2
              · go_simp
                constructor
                · rfl
                · rfl
              have BY := Aside0.mk (blk_new w9 (.cells #[.int .i64 0, .bool false, .int .i64 0, .string ⟨#[]⟩, .slice none 0 0, .slice none 0 0] 25))
              have LBY := Aside0.mk (show bo < w9.heap.size from blk_lt BKo.out)
              have hb := below_alloc (Below.refl w9.heap.size w9) (.cells #[.int .i64 0, .bool false, .int .i64 0, .string ⟨#[]⟩, .slice none 0 0, .slice none 0 0] 25)
              have n3 := Aside0.mk ((HYR.out.bound.below hb).mono (ok' := okY w ok0 bo w9.heap.size) (fun k hk => ⟨hk.1, Nat.ne_of_lt hk.2⟩))
              clear HYR
              have HYR := n3
              clear n3
              have n0 := Aside0.mk (HP.out.below hb)
              have n1 := Aside0.mk (blk_below BKo.out hb)
              have n2 := Aside0.mk (below_step HB5.out hb)
              clear HP BKo HB5
              have HP := n0
              have BKo := n1
              have HB5 := n2
              clear n0 n1 n2
              clear hb
              generalize w9.alloc (.cells #[.int .i64 0, .bool false, .int .i64 0, .string ⟨#[]⟩, .slice none 0 0, .slice none 0 0] 25) = w10 at * 
              generalize w9.heap.size = by_ at *
              refine hK.out _ _ ⟨(blk_cell BKo.out 0).trans rfl, (blk_cell BKo.out 1).trans rfl, (blk_cell BKo.out 2).trans rfl, (blk_cell BKo.out 3).trans rfl, (blk_cell BKo.out 4).trans rfl, (blk_cell BKo.out 5).trans rfl, (blk_cell HP.out.X 0).trans rfl, (blk_cell HP.out.X 1).trans rfl, (blk_cell HP.out.X 2).trans rfl, (blk_cell HP.out.X 3).trans rfl, (blk_cell HP.out.X 4).trans rfl, (blk_cell HP.out.X 5).trans rfl⟩ (fun hHeld => ?_)
              clear hK K
              refine norm_ (a' := ?_) ?_ ?_
              rotate_left
              · show Act.put _ (some 12) _ = _
                simp only [Act.put, List.setIfInBounds_toArray, List.set_cons_zero, List.set_cons_succ, i64_w, i32_w]
                rfl
              exact norm_ (by first | (simp only [putAll, Act.put, List.setIfInBounds_toArray, List.set_cons_zero, List.set_cons_succ]; done) | (simp only [putAll, Act.put, List.setIfInBounds_toArray, List.set_cons_zero, List.set_cons_succ]; rfl)) (hCont (J4, j4, J5, j5, by_) _ ⟨HP.out, BKo.out, BY.out, HYR.out, LBY.out⟩)
            · skip
              refine value_ (w1 := ?_) (v := ?_) (by rfl) rfl ?_ ?_
              rotate_left 2
              · go_simp
                constructor
                · rfl
                · rfl
              have BY := Aside0.mk (blk_new W8 (.cells #[.int .i64 0, .bool false, .int .i64 0, .string ⟨#[]⟩, .slice none 0 0, .slice none 0 0] 25))
              have LBY := Aside0.mk (show bo < W8.heap.size from blk_lt BKo.out)
              have hb := below_alloc (Below.refl W8.heap.size W8) (.cells #[.int .i64 0, .bool false, .int .i64 0, .string ⟨#[]⟩, .slice none 0 0, .slice none 0 0] 25)
              have n0 := Aside0.mk (HP.out.below hb)
              have n1 := Aside0.mk (blk_below BKo.out hb)
              have n2 := Aside0.mk (below_step HB5.out hb)
              clear HP BKo HB5
              have HP := n0
              have BKo := n1
              have HB5 := n2
              clear n0 n1 n2
              clear hb
              generalize W8.alloc (.cells #[.int .i64 0, .bool false, .int .i64 0, .string ⟨#[]⟩, .slice none 0 0, .slice none 0 0] 25) = w10 at * 
              generalize W8.heap.size = by_ at *
              refine hK.out _ _ ⟨(blk_cell BKo.out 0).trans rfl, (blk_cell BKo.out 1).trans rfl, (blk_cell BKo.out 2).trans rfl, (blk_cell BKo.out 3).trans rfl, (blk_cell BKo.out 4).trans rfl, (blk_cell BKo.out 5).trans rfl, (blk_cell HP.out.X 0).trans rfl, (blk_cell HP.out.X 1).trans rfl, (blk_cell HP.out.X 2).trans rfl, (blk_cell HP.out.X 3).trans rfl, (blk_cell HP.out.X 4).trans rfl, (blk_cell HP.out.X 5).trans rfl⟩ (fun hHeld => ?_)
              clear hK K
              refine norm_ (a' := ?_) ?_ ?_
              rotate_left
              · show Act.put _ (some 12) _ = _
                simp only [Act.put, List.setIfInBounds_toArray, List.set_cons_zero, List.set_cons_succ, i64_w, i32_w]
                rfl
              refine one_ (i := 4) (N := some 57) #[true, true, true, true, true, false, false, false, true, false, false] rfl rfl (by kernel_rfl) (by decide) (fun K hK => ?_)
              refine goes_ Tryz.func20 (by kernel_rfl) rfl #[.agg #[.int .i64 o1.1.f0, .bool o1.1.f1, .int .i64 o1.1.f2, .string o1.1.f3, .slice G4 o1.1.f4.length g4, .slice G5 o1.1.f5.length g5], .slice (if c1 = 1 then some pa else some ⟨pa.block, pa.off + 3, none⟩) l.length (c1 - 1), .agg #[.int .i64 x.f0, .bool x.f1, .int .i64 x.f2, .string x.f3, .slice B4 x.f4.length d4, .slice B5 x.f5.length d5]] (by rfl) rfl rfl (by simp only [List.map_toArray, List.map_cons, List.map_nil]; rfl) ?_
              refine (IH.out o1.1 G4 g4 G5 g5 _ _ x B4 d4 B5 d5 y1 _ (fun k => ok0 k ∧ k < w.heap.size) (HRO.out.below HB5.out) ?sl (by omega) (HX.out.bound.below HP.out.B) HY1.out).mono ?_
              case sl => have h_ := Kd.C_below (Kd.C_drop HL.out (show 1 ≤ (s :: l).length by simp) (show (s :: l).length ≤ c1 from hc)) HP.out.B; simp only [List.drop_one, List.tail_cons, show k95.sz = 3 from rfl, Nat.one_mul] at h_; exact h_
              rintro e w9 ⟨J4, j4, J5, j5, rfl, hyr, hb⟩
              refine ⟨_, rfl, ?_⟩
              have lo_ := blk_lt BKo.out
              have ly_ := blk_lt BY.out
              have lb_ := LBY.out
              have a1_ := HP.out.h1
              have a2_ := HP.out.h2
              have a3_ := HP.out.h3
              have a4_ := LBO.out
              have HYR := Aside0.mk (okY_fst hyr (by omega) (by omega) (by omega) : RdF _ (okY w ok0 bo by_) _ _ _ _ _)
              clear ly_ lb_ a1_ a2_ a3_ a4_
              have n0 := Aside0.mk (HP.out.below hb)
              have n1 := Aside0.mk (blk_below BKo.out hb)
              have n2 := Aside0.mk (below_step HB5.out hb)
              have n3 := Aside0.mk (blk_below BY.out hb)
              clear HP BKo HB5 BY
              have HP := n0
              have BKo := n1
              have HB5 := n2
              have BY := n3
              clear n0 n1 n2 n3
              clear hyr hb lo_
              refine hK.out _ _ ⟨(blk_cell BKo.out 0).trans rfl, (blk_cell BKo.out 1).trans rfl, (blk_cell BKo.out 2).trans rfl, (blk_cell BKo.out 3).trans rfl, (blk_cell BKo.out 4).trans rfl, (blk_cell BKo.out 5).trans rfl, (blk_cell HP.out.X 0).trans rfl, (blk_cell HP.out.X 1).trans rfl, (blk_cell HP.out.X 2).trans rfl, (blk_cell HP.out.X 3).trans rfl, (blk_cell HP.out.X 4).trans rfl, (blk_cell HP.out.X 5).trans rfl⟩ (fun hHeld => ?_)
              clear hK K
              refine norm_ (a' := ?_) ?_ ?_
              rotate_left
              · show Act.put _ (some 57) _ = _
                simp only [Act.put, List.setIfInBounds_toArray, List.set_cons_zero, List.set_cons_succ, i64_w, i32_w]
                rfl
              refine pure_ (i := 5) (N := some 52) (v := ?_) (a' := ?_) #[true, true, true, true, true, true, false, false, true, false, false] rfl rfl (by kernel_rfl) (fun _ _ _ h => h) (Or.inl ⟨by rfl, ?_⟩) ?_ ?_
              rotate_left
              · intro w'
                go_simp
                with_reducible rfl
              rotate_left
              · simp only [Act.put, List.setIfInBounds_toArray, List.set_cons_zero, List.set_cons_succ, i64_w, i32_w]
                rfl
              refine pure_ (i := 6) (N := some 58) (v := ?_) (a' := ?_) #[true, true, true, true, true, true, true, false, true, false, false] rfl rfl (by kernel_rfl) (fun _ _ _ h => h) (Or.inl ⟨by rfl, ?_⟩) ?_ ?_
              rotate_left
              · intro w'
                go_simp
                with_reducible rfl
              rotate_left
              · simp only [Act.put, List.setIfInBounds_toArray, List.set_cons_zero, List.set_cons_succ, i64_w, i32_w]
                rfl
              refine pure_ (i := 7) (N := some 59) (v := ?_) (a' := ?_) #[true, true, true, true, true, true, true, true, true, false, false] rfl rfl (by kernel_rfl) (fun _ _ _ h => h) (Or.inl ⟨by rfl, ?_⟩) ?_ ?_
              rotate_left
              · intro w'
                go_simp
                with_reducible rfl
              rotate_left
              · simp only [Act.put, List.setIfInBounds_toArray, List.set_cons_zero, List.set_cons_succ, i64_w, i32_w]
                rfl
              exact norm_ (by first | (simp only [putAll, Act.put, List.setIfInBounds_toArray, List.set_cons_zero, List.set_cons_succ]; done) | (simp only [putAll, Act.put, List.setIfInBounds_toArray, List.set_cons_zero, List.set_cons_succ]; rfl)) (hCont (J4, j4, J5, j5, by_) _ ⟨HP.out, BKo.out, BY.out, HYR.out, LBY.out⟩)
          clear HP BKo HB5 HRO
          rintro ⟨J4, j4, J5, j5, by_⟩ W10 ⟨hp, ho, hy, hr, hl⟩
          have HP := Aside0.mk hp
          have BKo := Aside0.mk ho
          have BY := Aside0.mk hy
          have HYR := Aside0.mk hr
          have LBY := Aside0.mk hl
          clear hp ho hy hr hl
          have hHeld : W10.cell? ⟨bo, 0, none⟩ = some (.int .i64 o1.1.f0) ∧ W10.cell? ⟨bo, 1, none⟩ = some (.bool o1.1.f1) ∧ W10.cell? ⟨bo, 2, none⟩ = some (.int .i64 o1.1.f2) ∧ W10.cell? ⟨bo, 3, none⟩ = some (.string o1.1.f3) ∧ W10.cell? ⟨bo, 4, none⟩ = some (.slice G4 o1.1.f4.length g4) ∧ W10.cell? ⟨bo, 5, none⟩ = some (.slice G5 o1.1.f5.length g5) ∧ W10.cell? ⟨bx, 0, none⟩ = some (.int .i64 x.f0) ∧ W10.cell? ⟨bx, 1, none⟩ = some (.bool x.f1) ∧ W10.cell? ⟨bx, 2, none⟩ = some (.int .i64 x.f2) ∧ W10.cell? ⟨bx, 3, none⟩ = some (.string x.f3) ∧ W10.cell? ⟨bx, 4, none⟩ = some (.slice B4 x.f4.length d4) ∧ W10.cell? ⟨bx, 5, none⟩ = some (.slice B5 x.f5.length d5) := ⟨(blk_cell BKo.out 0).trans rfl, (blk_cell BKo.out 1).trans rfl, (blk_cell BKo.out 2).trans rfl, (blk_cell BKo.out 3).trans rfl, (blk_cell BKo.out 4).trans rfl, (blk_cell BKo.out 5).trans rfl, (blk_cell HP.out.X 0).trans rfl, (blk_cell HP.out.X 1).trans rfl, (blk_cell HP.out.X 2).trans rfl, (blk_cell HP.out.X 3).trans rfl, (blk_cell HP.out.X 4).trans rfl, (blk_cell HP.out.X 5).trans rfl⟩
          refine norm_ (a' := ?_) ?_ ?_
          rotate_left
          · simp only [putAll, Act.put, List.setIfInBounds_toArray, List.set_cons_zero, List.set_cons_succ]
            rfl
          refine last_ (i := 9) (N := none) #[true, true, true, true, true, true, true, true, true, true, false] rfl rfl (by kernel_rfl) (by decide) (fun K hK => ?_)
          have yy0 : W10.cell? ⟨by_, 0, none⟩ = some (.int .i64 0) := (blk_cell BY.out 0).trans rfl
          have yy1 : W10.cell? ⟨by_, 1, none⟩ = some (.bool false) := (blk_cell BY.out 1).trans rfl
          have yy2 : W10.cell? ⟨by_, 2, none⟩ = some (.int .i64 0) := (blk_cell BY.out 2).trans rfl
          have yy3 : W10.cell? ⟨by_, 3, none⟩ = some (.string ⟨#[]⟩) := (blk_cell BY.out 3).trans rfl
          have yy4 : W10.cell? ⟨by_, 4, none⟩ = some (.slice none 0 0) := (blk_cell BY.out 4).trans rfl
          have yy5 : W10.cell? ⟨by_, 5, none⟩ = some (.slice none 0 0) := (blk_cell BY.out 5).trans rfl
          have zy0 := blk_frozen BY.out 0
          have zy1 := blk_frozen BY.out 1
          have zy2 := blk_frozen BY.out 2
          have zy3 := blk_frozen BY.out 3
          have zy4 := blk_frozen BY.out 4
          have zy5 := blk_frozen BY.out 5
          refine skip_ (w1 := ?_) (by rfl) rfl ?_ ?_
          rotate_left
          · go_simp
            rfl
          clear yy0 zy0 yy1 zy1 yy2 zy2 yy3 zy3 yy4 zy4 yy5 zy5
          have n0 := Aside0.mk (HP.out.box (Nat.lt_trans LBO.out LBY.out) (.int .i64 y1.1.f0) (.bool y1.1.f1) (.int .i64 y1.1.f2) (.string y1.1.f3) (.slice J4 y1.1.f4.length j4) (.slice J5 y1.1.f5.length j5))
          have n1 := Aside0.mk (put6 BY.out (.int .i64 y1.1.f0) (.bool y1.1.f1) (.int .i64 y1.1.f2) (.string y1.1.f3) (.slice J4 y1.1.f4.length j4) (.slice J5 y1.1.f5.length j5))
          have n2 := Aside0.mk (HYR.out.six (fun k hk => hk.2) (.int .i64 y1.1.f0) (.bool y1.1.f1) (.int .i64 y1.1.f2) (.string y1.1.f3) (.slice J4 y1.1.f4.length j4) (.slice J5 y1.1.f5.length j5))
          clear HP BY HYR
          have HP := n0
          have BY := n1
          have HYR := n2
          clear n0 n1 n2
          generalize ((((((W10.setCell ⟨by_, 0, none⟩ (.int .i64 y1.1.f0)).setCell ⟨by_, 1, none⟩ (.bool y1.1.f1)).setCell ⟨by_, 2, none⟩ (.int .i64 y1.1.f2)).setCell ⟨by_, 3, none⟩ (.string y1.1.f3)).setCell ⟨by_, 4, none⟩ (.slice J4 y1.1.f4.length j4)).setCell ⟨by_, 5, none⟩ (.slice J5 y1.1.f5.length j5)) = W11 at HP BY HYR ⊢
          refine hK.out _ _ ?_
          clear hK K
          refine pure_ (i := 10) (N := some 13) (v := ?_) (a' := ?_) #[true, true, true, true, true, true, true, true, true, true, true] rfl rfl (by kernel_rfl) (fun _ _ _ h => h) (Or.inl ⟨by rfl, ?_⟩) ?_ ?_
          rotate_left
          · intro w'
            go_simp
            with_reducible rfl
          rotate_left
          · simp only [Act.put, List.setIfInBounds_toArray, List.set_cons_zero, List.set_cons_succ, i64_w, i32_w]
            rfl
          refine done_ (by kernel_rfl) ?_
          generalize (if c1 = 1 then some pa else some (⟨pa.block, pa.off + 3, none⟩ : Addr)) = pb_
          clear BKo
          have LO := Aside0.mk (Nat.lt_trans LBO.out LBY.out)
          by_cases c5 : y1.2 = 0
          case neg =>
            have H1 := HE.out
            rw [if_neg c5] at H1
            injection H1 with H1
            subst H1
            have e1 : (y1.2 == 0) = false := beq_eq_false_iff_ne.2 c5
            have e2 : (y1.2 != 0) = true := bne_iff_ne.2 c5
            have yr0 : W11.cell? ⟨br, 0, none⟩ = some (.int .i64 0) := (blk_cell HP.out.R 0).trans rfl
            have yr1 : W11.cell? ⟨br, 1, none⟩ = some (.bool false) := (blk_cell HP.out.R 1).trans rfl
            have yr2 : W11.cell? ⟨br, 2, none⟩ = some (.int .i64 0) := (blk_cell HP.out.R 2).trans rfl
            have yr3 : W11.cell? ⟨br, 3, none⟩ = some (.string ⟨#[]⟩) := (blk_cell HP.out.R 3).trans rfl
            have yr4 : W11.cell? ⟨br, 4, none⟩ = some (.slice none 0 0) := (blk_cell HP.out.R 4).trans rfl
            have yr5 : W11.cell? ⟨br, 5, none⟩ = some (.slice none 0 0) := (blk_cell HP.out.R 5).trans rfl
            have zr0 := blk_frozen HP.out.R 0
            have zr1 := blk_frozen HP.out.R 1
            have zr2 := blk_frozen HP.out.R 2
            have zr3 := blk_frozen HP.out.R 3
            have zr4 := blk_frozen HP.out.R 4
            have zr5 := blk_frozen HP.out.R 5
            have Gbr : w.heap.size ≤ br := by have := HP.out.h1; have := HP.out.h2; omega
            go_wp2_with fail
            refine bodyPost_ret (results_ct rfl _ _ br 25 #[.int .i64 0, .bool false, .int .i64 0, .string ⟨#[]⟩, .slice none 0 0, .slice none 0 0] (0, 0) _ rfl (put6 HP.out.R _ _ _ _ _ _) Tryz.underlying25 rfl (by kernel_rfl)) rfl ?_
            exact ⟨none, 0, none, 0, rfl, RdF.nil _ _ _ _ _ _, put6_below HP.out.B Gbr _ _ _ _ _ _⟩
          have H1 := HE.out
          rw [if_pos c5, cset3] at H1
          have e1 : (y1.2 == 0) = true := beq_iff_eq.2 c5
          have e2 : (y1.2 != 0) = false := bne_eq_false_iff_eq.2 c5
          clear HE c5
          by_cases c6 : u.f0 = 6
          case pos =>
            have e3 : (u.f0 == 6) = true := beq_iff_eq.2 c6
            have e4 : (u.f0 != 6) = false := bne_eq_false_iff_eq.2 c6
            rw [if_pos c6] at H1
            obtain ⟨p, hp, H1⟩ := Option.bind_eq_some_iff.1 H1
            injection H1 with H1
            subst H1
            have HPUT := Aside0.mk hp
            clear hp c6
            have yu0 : W11.cell? ⟨w.heap.size, 0, none⟩ = some (.int .i64 u.f0) := (blk_cell HP.out.V 0).trans rfl
            have yu1 : W11.cell? ⟨w.heap.size, 1, none⟩ = some (.bool u.f1) := (blk_cell HP.out.V 1).trans rfl
            have yu2 : W11.cell? ⟨w.heap.size, 2, none⟩ = some (.int .i64 u.f2) := (blk_cell HP.out.V 2).trans rfl
            have yu3 : W11.cell? ⟨w.heap.size, 3, none⟩ = some (.string u.f3) := (blk_cell HP.out.V 3).trans rfl
            have yu4 : W11.cell? ⟨w.heap.size, 4, none⟩ = some (.slice F4 u.f4.length f4) := (blk_cell HP.out.V 4).trans rfl
            have yu5 : W11.cell? ⟨w.heap.size, 5, none⟩ = some (.slice F5 u.f5.length f5) := (blk_cell HP.out.V 5).trans rfl
            have ys0 : W11.cell? ⟨bs, 0, none⟩ = some (.string s.f0) := (blk_cell HP.out.S 0).trans rfl
            have yy0 : W11.cell? ⟨by_, 0, none⟩ = some (.int .i64 y1.1.f0) := (blk_cell BY.out 0).trans rfl
            have yy1 : W11.cell? ⟨by_, 1, none⟩ = some (.bool y1.1.f1) := (blk_cell BY.out 1).trans rfl
            have yy2 : W11.cell? ⟨by_, 2, none⟩ = some (.int .i64 y1.1.f2) := (blk_cell BY.out 2).trans rfl
            have yy3 : W11.cell? ⟨by_, 3, none⟩ = some (.string y1.1.f3) := (blk_cell BY.out 3).trans rfl
            have yy4 : W11.cell? ⟨by_, 4, none⟩ = some (.slice J4 y1.1.f4.length j4) := (blk_cell BY.out 4).trans rfl
            have yy5 : W11.cell? ⟨by_, 5, none⟩ = some (.slice J5 y1.1.f5.length j5) := (blk_cell BY.out 5).trans rfl
            have Gbr : w.heap.size ≤ br := by have := HP.out.h1; have := HP.out.h2; omega
            go_wp2_with ((go_at_call 29; refine (put_calls u F4 f4 F5 f5 s.f0 y1.1 J4 j4 J5 j5 p _ (fun k => (ok0 k ∧ k < w.heap.size) ∨ bo < k) ((HV.out.bound.below HP.out.B).mono (fun _ hk => .inl hk)) (HYR.out.mono (fun _ hk => hk.1)) HPUT.out).mono ?_; rintro e W12 ⟨E4, e4_, E5, e5_, rfl, hr, hb⟩; have n1 := Aside0.mk (HP.out.below hb); have LSZ := Aside0.mk (blk_lt BY.out); clear HP hb; have HP := n1; clear n1; have HR := Aside0.mk hr; clear hr; have yr0 : W12.cell? ⟨br, 0, none⟩ = some (.int .i64 0) := (blk_cell HP.out.R 0).trans rfl; have yr1 : W12.cell? ⟨br, 1, none⟩ = some (.bool false) := (blk_cell HP.out.R 1).trans rfl; have yr2 : W12.cell? ⟨br, 2, none⟩ = some (.int .i64 0) := (blk_cell HP.out.R 2).trans rfl; have yr3 : W12.cell? ⟨br, 3, none⟩ = some (.string ⟨#[]⟩) := (blk_cell HP.out.R 3).trans rfl; have yr4 : W12.cell? ⟨br, 4, none⟩ = some (.slice none 0 0) := (blk_cell HP.out.R 4).trans rfl; have yr5 : W12.cell? ⟨br, 5, none⟩ = some (.slice none 0 0) := (blk_cell HP.out.R 5).trans rfl; have zr0 := blk_frozen HP.out.R 0; have zr1 := blk_frozen HP.out.R 1; have zr2 := blk_frozen HP.out.R 2; have zr3 := blk_frozen HP.out.R 3; have zr4 := blk_frozen HP.out.R 4; have zr5 := blk_frozen HP.out.R 5))
            refine bodyPost_ret (results_ct rfl _ _ br 25 #[.int .i64 p.f0, .bool p.f1, .int .i64 p.f2, .string p.f3, .slice E4 p.f4.length e4_, .slice E5 p.f5.length e5_] (0, 0) _ rfl (put6 HP.out.R _ _ _ _ _ _) Tryz.underlying25 rfl (by kernel_rfl)) rfl ?_
            have q1 := HP.out.h3
            have q2 := LBO.out
            have q3 := LBY.out
            have q4 := LSZ.out
            refine ⟨E4, e4_, E5, e5_, rfl, (HR.out.six (g := br) (fun k hk => ?_) (.int .i64 p.f0) (.bool p.f1) (.int .i64 p.f2) (.string p.f3) (.slice E4 p.f4.length e4_) (.slice E5 p.f5.length e5_)).mono (fun k hk => ?_), put6_below HP.out.B Gbr _ _ _ _ _ _⟩
            · rcases hk with (hk | hk) | hk
              · have := hk.2; omega
              · omega
              · omega
            · rcases hk with (hk | hk) | hk
              · exact .inl hk.1
              · exact .inr (by omega)
              · exact .inr (by omega)
          have e3 : (u.f0 == 6) = false := beq_eq_false_iff_ne.2 c6
          have e4 : (u.f0 != 6) = true := bne_iff_ne.2 c6
          rw [if_neg c6] at H1
          clear c6 kd56
          by_cases c7 : u.f4.length ≤ 1000000
          case neg => rw [if_neg c7] at H1; cases H1
          rw [if_pos c7] at H1
          have HE := Aside0.mk H1
          clear H1
          have yu4 : W11.cell? ⟨w.heap.size, 4, none⟩ = some (.slice F4 u.f4.length f4) := (blk_cell HP.out.V 4).trans rfl
          go_upto_if 78 with (((with_reducible refine gate_builtin (b := .append) (xs := #[.const (.slice none 0 0), .tmp 72]) rfl ?_); (try (refine gate_guard (by rfl) ?_; dsimp only)); at_builtin; refine Kd.N_append_rows k25 (w0 := w) w.heap.size rfl (.const (.slice none 0 0)) (.tmp 72) 22 25 (.agg #[.int .i64 0, .bool false, .int .i64 0, .string ⟨#[]⟩, .slice none 0 0, .slice none 0 0]) 88 rfl Tryz.underlying22 info25' rfl (by decide) (by omega) (.slice none 0 0) ([] : List S25) u.f4 _ _ _ (okY w ok0 bo by_) (fun k => ok0 k ∧ k < w.heap.size) rfl rfl (Kd.N_nil _ _ _ _ _) (HV.out.bound.below HP.out.B).1 (okY_old HP.out LBO.out LBY.out) (okY_new LBY.out BY.out) HP.out.B HP.out.size (by simp; omega) ?_; intro v14 w12 ho hb hg hat; have n0 := Aside0.mk (HP.out.grown hb hg (fun k hk => by simp [Value.ownBlock] at hk)); have n1 := Aside0.mk (HYR.out.bound.step (fun k _ hlt => hg.block k hlt (by simp [Value.ownBlock]))); have n2 := Aside0.mk (blk_grown BY.out hg (by simp [Value.ownBlock])); clear HP HYR BY; have HP := n0; have HYR := n1; have BY := n2; clear n0 n1 n2; have LV := Aside0.mk (own_of_nil hat); have HN := Aside0.mk ho; clear ho hb hg hat; obtain ⟨Av, cv, rfl⟩ := Kd.V_slice (Kd.N_V (base' := 0) HN.out); have ys1 : w12.cell? ⟨bs, 1, none⟩ = some (.int .i64 s.f1) := (blk_cell HP.out.S 1).trans rfl))
          (try simp only [Act.put, List.setIfInBounds_toArray, List.set_cons_zero, List.set_cons_succ])
          (try simp only [List.nil_append] at HN)
          have L78 := Aside0.mk (Kd.N_reads' HN.out).1
          go_cut [14] (fun v14 wc => ∃ xs : List S25, Aside0 (r = (⟨5, false, 0, ⟨#[]⟩, xs, []⟩, 0)) ∧ Aside0 (Kd.N k25 25 wc w.heap.size (okY w ok0 bo by_) v14 xs) ∧ Aside0 (SetAt w bx br bs #[.int .i64 u.f0, .bool u.f1, .int .i64 u.f2, .string u.f3, .slice F4 u.f4.length f4, .slice F5 u.f5.length f5] #[.int .i64 x.f0, .bool x.f1, .int .i64 x.f2, .string x.f3, .slice B4 x.f4.length d4, .slice B5 x.f5.length d5] #[.string s.f0, .int .i64 s.f1, .bool s.f2] wc))
          case first =>
            clear yu4
            by_cases c8 : s.f1 = (u.f4.length : Int)
            case pos =>
              have e5 : (s.f1 == (u.f4.length : Int)) = true := beq_iff_eq.2 c8
              have H1 := HE.out
              rw [if_pos c8] at H1
              injection H1 with H1
              have HR := Aside0.mk H1.symm
              clear H1 HE c8
              (first | rw [e5] | skip)
              have BYL := Aside0.mk (blk_lt BY.out)
              have HYG := Aside0.mk (HYR.out.mono (fun k hk => (⟨hk.1, fun he => by have := LV.out k he.symm; have := hk.2; omega⟩ : okY w ok0 bo by_ k ∧ some k ≠ (Value.slice Av u.f4.length cv).ownBlock)))
              clear HYR
              have yy0 : w12.cell? ⟨by_, 0, none⟩ = some (.int .i64 y1.1.f0) := (blk_cell BY.out 0).trans rfl
              have yy1 : w12.cell? ⟨by_, 1, none⟩ = some (.bool y1.1.f1) := (blk_cell BY.out 1).trans rfl
              have yy2 : w12.cell? ⟨by_, 2, none⟩ = some (.int .i64 y1.1.f2) := (blk_cell BY.out 2).trans rfl
              have yy3 : w12.cell? ⟨by_, 3, none⟩ = some (.string y1.1.f3) := (blk_cell BY.out 3).trans rfl
              have yy4 : w12.cell? ⟨by_, 4, none⟩ = some (.slice J4 y1.1.f4.length j4) := (blk_cell BY.out 4).trans rfl
              have yy5 : w12.cell? ⟨by_, 5, none⟩ = some (.slice J5 y1.1.f5.length j5) := (blk_cell BY.out 5).trans rfl
              go_wp2_with (((with_reducible refine gate_builtin (b := .append) (xs := #[.tmp 79, .tmp 81]) rfl ?_); (try (refine gate_guard (by rfl) ?_; dsimp only)); at_builtin; refine Kd.N_append k25 (w0 := w) w.heap.size rfl (.tmp 79) (.tmp 81) 22 25 (.agg #[.int .i64 0, .bool false, .int .i64 0, .string ⟨#[]⟩, .slice none 0 0, .slice none 0 0]) 88 rfl Tryz.underlying22 info25' rfl (by decide) (by omega) (.slice Av u.f4.length cv) u.f4 y1.1 [.int .i64 y1.1.f0, .bool y1.1.f1, .int .i64 y1.1.f2, .string y1.1.f3, .slice J4 y1.1.f4.length j4, .slice J5 y1.1.f5.length j5] (okY w ok0 bo by_) _ rfl (by rfl) (k25_mkF _ _ y1.1 HYG.out.2.1 HYG.out.1 HYG.out.2.2.2 HYG.out.2.2.1) (fun _ hk => hk) (okY_new LBY.out BY.out) HN.out HP.out.B HP.out.size (by omega) ?_; intro v15 w13 ho hb hg hat; have n0 := Aside0.mk (HP.out.grown hb hg (okN_row HP.out LBO.out LBY.out HN.out)); clear HP; have HP := n0; clear n0; clear HN; have HN := Aside0.mk ho; clear ho hb hg hat))
              go_meet
              case rel => exact ⟨_, HR, HN, HP⟩
            case neg =>
              have e5 : (s.f1 == (u.f4.length : Int)) = false := beq_eq_false_iff_ne.2 c8
              have H1 := HE.out
              rw [if_neg c8] at H1
              by_cases c9 : 0 ≤ s.f1 ∧ s.f1 < (u.f4.length : Int)
              case neg => rw [if_neg c9] at H1; cases H1
              rw [if_pos c9] at H1
              injection H1 with H1
              have HR := Aside0.mk H1.symm
              clear H1 HE c8
              (first | rw [e5] | skip)
              obtain ⟨p9, q9⟩ := c9
              obtain ⟨go, co, eo, gb, gl, cl, HG⟩ := Kd.N_form HN.out (by omega)
              injection eo with ea en ec
              subst ea ec
              clear en gb gl HG cl
              have HYG := Aside0.mk (HYR.out.mono (fun k hk => (⟨hk.1, fun he => by have := LV.out k (by rw [he]; rfl); have := hk.2; omega⟩ : okY w ok0 bo by_ k ∧ k ≠ go)))
              clear HYR
              obtain ⟨ce, hcl, hM, hcc, hfr⟩ := Kd.N_elem HN.out z25 s.f1 p9 q9
              obtain ⟨ua4, uc4, ua5, uc5, rfl, ul4, ge4, ul5, ge5⟩ := k25_openF hM
              clear ul4 ge4 ul5 ge5 hM
              have HSG := Aside0.mk (Kd.N_seg HN.out s.f1 p9 q9 (seg := [.int .i64 y1.1.f0, .bool y1.1.f1, .int .i64 y1.1.f2, .string y1.1.f3, .slice J4 y1.1.f4.length j4, .slice J5 y1.1.f5.length j5]) (j := 0) hcl hcc (show 6 ≤ 6 from by decide) (x' := y1.1) (okp := fun k => okY w ok0 bo by_ k ∧ k ≠ go) (k25_mkF _ _ y1.1 HYG.out.2.1 HYG.out.1 HYG.out.2.2.2 HYG.out.2.2.1) (fun _ hk => hk))
              have hx0 := hcc 0 _ rfl
              (try simp only [show (k25).sz = 6 from rfl, Nat.mul_one, Nat.add_zero] at hx0)
              have hf0 := hfr 0
              (try simp only [show (k25).sz = 6 from rfl, Nat.mul_one, Nat.add_zero] at hf0)
              have hx1 := hcc 1 _ rfl
              (try simp only [show (k25).sz = 6 from rfl, Nat.mul_one, Nat.add_zero] at hx1)
              have hf1 := hfr 1
              (try simp only [show (k25).sz = 6 from rfl, Nat.mul_one, Nat.add_zero] at hf1)
              have hx2 := hcc 2 _ rfl
              (try simp only [show (k25).sz = 6 from rfl, Nat.mul_one, Nat.add_zero] at hx2)
              have hf2 := hfr 2
              (try simp only [show (k25).sz = 6 from rfl, Nat.mul_one, Nat.add_zero] at hf2)
              have hx3 := hcc 3 _ rfl
              (try simp only [show (k25).sz = 6 from rfl, Nat.mul_one, Nat.add_zero] at hx3)
              have hf3 := hfr 3
              (try simp only [show (k25).sz = 6 from rfl, Nat.mul_one, Nat.add_zero] at hf3)
              have hx4 := hcc 4 _ rfl
              (try simp only [show (k25).sz = 6 from rfl, Nat.mul_one, Nat.add_zero] at hx4)
              have hf4 := hfr 4
              (try simp only [show (k25).sz = 6 from rfl, Nat.mul_one, Nat.add_zero] at hf4)
              have hx5 := hcc 5 _ rfl
              (try simp only [show (k25).sz = 6 from rfl, Nat.mul_one, Nat.add_zero] at hx5)
              have hf5 := hfr 5
              (try simp only [show (k25).sz = 6 from rfl, Nat.mul_one, Nat.add_zero] at hf5)
              clear hcl hcc hfr
              have p9b : decide (0 ≤ s.f1) = true := decide_eq_true p9
              have q9b : decide (s.f1 < (u.f4.length : Int)) = true := decide_eq_true q9
              have p9c := eq_true p9
              have q9c := eq_true q9
              have ROW := Aside0.mk (okN_row HP.out LBO.out LBY.out HN.out)
              have BYLT := Aside0.mk HP.out.size
              have yy0 : w12.cell? ⟨by_, 0, none⟩ = some (.int .i64 y1.1.f0) := (blk_cell BY.out 0).trans rfl
              have yy1 : w12.cell? ⟨by_, 1, none⟩ = some (.bool y1.1.f1) := (blk_cell BY.out 1).trans rfl
              have yy2 : w12.cell? ⟨by_, 2, none⟩ = some (.int .i64 y1.1.f2) := (blk_cell BY.out 2).trans rfl
              have yy3 : w12.cell? ⟨by_, 3, none⟩ = some (.string y1.1.f3) := (blk_cell BY.out 3).trans rfl
              have yy4 : w12.cell? ⟨by_, 4, none⟩ = some (.slice J4 y1.1.f4.length j4) := (blk_cell BY.out 4).trans rfl
              have yy5 : w12.cell? ⟨by_, 5, none⟩ = some (.slice J5 y1.1.f5.length j5) := (blk_cell BY.out 5).trans rfl
              have ys1 : w12.cell? ⟨bs, 1, none⟩ = some (.int .i64 s.f1) := (blk_cell HP.out.S 1).trans rfl
              go_wp2_with (((with_reducible refine gate_store (t := 25) (p := 87) rfl ?_); refine store_event (t := 25) (p := 87) (v := ?vo) (w1 := ((((((w12.setCell ⟨go, s.f1.toNat * 6, none⟩ (.int .i64 y1.1.f0)).setCell ⟨go, s.f1.toNat * 6 + 1, none⟩ (.bool y1.1.f1)).setCell ⟨go, s.f1.toNat * 6 + 2, none⟩ (.int .i64 y1.1.f2)).setCell ⟨go, s.f1.toNat * 6 + 3, none⟩ (.string y1.1.f3)).setCell ⟨go, s.f1.toNat * 6 + 4, none⟩ (.slice J4 y1.1.f4.length j4)).setCell ⟨go, s.f1.toNat * 6 + 5, none⟩ (.slice J5 y1.1.f5.length j5))) ?hg ?ho ?hn ?hr ?_; (case ho => rfl); (case hg => rfl); (case hn => rfl); (case hr => first | (go_simp; done) | (go_simp; rfl)); intro w13 hw; have hg : w12.grownBy w13 (some go) := (by rw [hw]; exact HSG.out.2); have ho : Kd.N k25 25 w13 w.heap.size (okY w ok0 bo by_) (.slice (some ⟨go, 0, none⟩) u.f4.length cv) (u.f4.set s.f1.toNat y1.1) := (by rw [hw]; exact HSG.out.1); clear HSG hw; have n0 := Aside0.mk (HP.out.grown (below_row HP.out.B hg (HN.out)) hg ROW.out); clear HP; have HP := n0; clear n0; clear HN; have HN := Aside0.mk ho; clear ho hg))
              go_meet
              case rel => exact ⟨_, HR, HN, HP⟩
          case rest =>
            clear HP HN HYR BY
            obtain ⟨xs, HR, HN, HP⟩ := hcut
            obtain ⟨Aw, cw, rfl⟩ := Kd.V_slice (Kd.N_V (base' := 0) HN.out)
            have yr0 : wc.cell? ⟨br, 0, none⟩ = some (.int .i64 0) := (blk_cell HP.out.R 0).trans rfl
            have yr1 : wc.cell? ⟨br, 1, none⟩ = some (.bool false) := (blk_cell HP.out.R 1).trans rfl
            have yr2 : wc.cell? ⟨br, 2, none⟩ = some (.int .i64 0) := (blk_cell HP.out.R 2).trans rfl
            have yr3 : wc.cell? ⟨br, 3, none⟩ = some (.string ⟨#[]⟩) := (blk_cell HP.out.R 3).trans rfl
            have yr4 : wc.cell? ⟨br, 4, none⟩ = some (.slice none 0 0) := (blk_cell HP.out.R 4).trans rfl
            have yr5 : wc.cell? ⟨br, 5, none⟩ = some (.slice none 0 0) := (blk_cell HP.out.R 5).trans rfl
            have zr0 := blk_frozen HP.out.R 0
            have zr1 := blk_frozen HP.out.R 1
            have zr2 := blk_frozen HP.out.R 2
            have zr3 := blk_frozen HP.out.R 3
            have zr4 := blk_frozen HP.out.R 4
            have zr5 := blk_frozen HP.out.R 5
            have Gbr : w.heap.size ≤ br := by have := HP.out.h1; have := HP.out.h2; omega
            go_wp2_with fail
            refine bodyPost_ret (results_ct rfl _ _ br 25 #[.int .i64 5, .bool false, .int .i64 0, .string ⟨#[]⟩, .slice Aw xs.length cw, .slice none 0 0] (0, 0) _ rfl (put6 HP.out.R _ _ _ _ _ _) Tryz.underlying25 rfl (by kernel_rfl)) rfl ?_
            rw [HR.out]
            have q1 := HP.out.h1
            have q2 := HP.out.h2
            have q3 := HP.out.h3
            have q4 := LBO.out
            have hok : ∀ k, okY w ok0 bo by_ k → k ≠ br := fun k hk => by rcases hk.1 with h_ | h_ <;> omega
            have hF := Kd.V_at (Kd.N_V (base' := 0) HN.out)
            refine ⟨Aw, cw, none, 0, rfl, RdF.mono (RdF.six (v := ⟨5, false, 0, ⟨#[]⟩, xs, []⟩) (A5 := none) (c5 := 0) ⟨hF.2.2, hF.2.1, Kd.F_nil _ _ _, Nat.le_refl _⟩ hok (.int .i64 5) (.bool false) (.int .i64 0) (.string ⟨#[]⟩) (.slice Aw xs.length cw) (.slice none 0 0)) (fun k hk => ?_), put6_below HP.out.B Gbr _ _ _ _ _ _⟩
            rcases hk.1 with h_ | h_
            · exact .inl h_.1
            · exact .inr (by omega)
end Go.Proofs.YtlofkjdcapbohaaGreatDoor.PConfKeeps
namespace Go.Proofs.YtlofkjdcapbohaaGreatDoor.PConfKeeps
open Go.RowKit Go.Proofs.YtlofkjdcapbohaaGreatDoorW.PrintWords Go.Proofs.YtlofkjdcapbohaaGreatDoorW.PrintLast Go.Proofs.YtlofkjdcapbohaaGreatDoorW.PrintMore
set_option linter.unusedVariables false
set_option linter.unusedSimpArgs false
/-- boxes of the call's own, the newest first: block, cells, type -/
structure Bs (w W : World) (l : List (Nat × Array Value × Nat)) : Prop where
 blk : ∀ (i : Nat) (p : Nat × Array Value × Nat), l[i]? = some p → W.heap[p.1]? = some (.cells p.2.1 p.2.2 (0, 0))
 B : Below w.heap.size w W
 ge : ∀ (i : Nat) (p : Nat × Array Value × Nat), l[i]? = some p → w.heap.size ≤ p.1
 nd : ∀ (i j : Nat) (p q : Nat × Array Value × Nat), i < j → l[i]? = some p → l[j]? = some q → q.1 < p.1
namespace Bs
variable {w W W1 : World} {l : List (Nat × Array Value × Nat)} {g t : Nat} {cs : Array Value}
theorem nil (w : World) : Bs w w [] := ⟨fun _ _ h => by simp at h, Below.refl _ _, fun _ _ h => by simp at h, fun _ _ _ _ _ h => by simp at h⟩
theorem below (h : Bs w W l) (hb : Below W.heap.size W W1) : Bs w W1 l := ⟨fun i p hp => blk_below (h.blk i p hp) hb, below_step h.B hb, h.ge, h.nd⟩
theorem size (h : Bs w W l) : w.heap.size ≤ W.heap.size := h.B.size
theorem new (h : Bs w W l) (hg : g = W.heap.size) (hc : W1.heap[g]? = some (.cells cs t (0, 0))) (hb : Below W.heap.size W W1) : Bs w W1 ((g, cs, t) :: l) := by
 have h1 := h.below hb
 refine ⟨fun i p hp => ?_, h1.B, fun i p hp => ?_, fun i j p q hij hp hq => ?_⟩
 ·cases i with
  | zero => simp at hp; subst hp; exact hc
  | succ i => exact h1.blk i p (by simpa using hp)
 ·cases i with
  | zero => simp at hp; subst hp; show w.heap.size ≤ g; rw [hg]; exact h.size
  | succ i => exact h.ge i p (by simpa using hp)
 ·cases j with
  | zero => omega
  | succ j =>
   have hq' : l[j]? = some q := by simpa using hq
   cases i with
   | zero => simp at hp; subst hp; show q.1 < g; rw [hg]; exact blk_lt (h.blk j q hq')
   | succ i => exact h.nd i j p q (by omega) (by simpa using hp) hq'
theorem get (h : Bs w W l) (i : Nat) (hi : l[i]? = some (g, cs, t)) : W.heap[g]? = some (.cells cs t (0, 0)) := h.blk i _ hi
theorem cl (h : Bs w W l) (i j : Nat) (hi : l[i]? = some (g, cs, t)) {v : Value} (hj : cs[j]? = some v) : W.cell? ⟨g, j, none⟩ = some v := (blk_cell (h.get i hi) j).trans hj
theorem fz (h : Bs w W l) (i j : Nat) (hi : l[i]? = some (g, cs, t)) : W.frozen? ⟨g, j, none⟩ = false := blk_frozen (h.get i hi) j
theorem low (h : Bs w W l) (i : Nat) (hi : l[i]? = some (g, cs, t)) : w.heap.size ≤ g := h.ge i _ hi
theorem lt (h : Bs w W l) (i : Nat) (hi : l[i]? = some (g, cs, t)) : g < W.heap.size := blk_lt (h.blk i _ hi)
theorem tail {p : Nat × Array Value × Nat} (h : Bs w W (p :: l)) : Bs w W l :=
 ⟨fun i q hq => h.blk (i + 1) q (by simpa using hq), h.B, fun i q hq => h.ge (i + 1) q (by simpa using hq), fun i j q r hij hq hr => h.nd (i + 1) (j + 1) q r (by omega) (by simpa using hq) (by simpa using hr)⟩
theorem put (h : Bs w W l) (i : Nat) (hi : l[i]? = some (g, cs, t)) (j : Nat) (v : Value) : Bs w (W.setCell ⟨g, j, none⟩ v) (l.set i (g, cs.setIfInBounds j v, t)) := by
 have key : ∀ (k : Nat) (p : Nat × Array Value × Nat), (l.set i (g, cs.setIfInBounds j v, t))[k]? = some p → (k = i ∧ p = (g, cs.setIfInBounds j v, t)) ∨ (k ≠ i ∧ l[k]? = some p) := by
  intro k p hp
  by_cases e : i = k
  ·subst e
   have hl : i < l.length := (List.getElem?_eq_some_iff.1 hi).1
   rw [List.getElem?_set_self hl] at hp
   injection hp with hp
   exact .inl ⟨rfl, hp.symm⟩
  ·rw [List.getElem?_set_ne e] at hp
   exact .inr ⟨fun h_ => e h_.symm, hp⟩
 have hne : ∀ (k : Nat) (p : Nat × Array Value × Nat), k ≠ i → l[k]? = some p → p.1 ≠ g := by
  intro k p hk hp he
  rcases Nat.lt_or_gt_of_ne hk with hlt | hlt
  ·have := h.nd k i _ _ hlt hp hi; dsimp only at this; omega
  ·have := h.nd i k _ _ hlt hi hp; dsimp only at this; omega
 refine ⟨fun k p hp => ?_, below_set h.B (h.ge i _ hi), fun k p hp => ?_, fun a b p q hab hp hq => ?_⟩
 ·rcases key k p hp with ⟨_, rfl⟩ | ⟨hk, hp'⟩
  ·exact blk_put (h.blk i _ hi) j v rfl
  ·exact blk_far (h.blk k p hp') (hne k p hk hp') v
 ·rcases key k p hp with ⟨_, rfl⟩ | ⟨_, hp'⟩
  ·exact h.ge _ (g, cs, t) hi
  ·exact h.ge k p hp'
 ·rcases key a p hp with ⟨rfl, rfl⟩ | ⟨_, hp'⟩ <;> rcases key b q hq with ⟨rfl, rfl⟩ | ⟨_, hq'⟩
  ·omega
  ·exact h.nd _ _ (g, cs, t) q hab hi hq'
  ·exact h.nd _ _ p (g, cs, t) hab hp' hi
  ·exact h.nd _ _ p q hab hp' hq'
theorem grown (h : Bs w W l) {row : Option Nat} (hg : W.grownBy W1 row) (hb : Below w.heap.size w W1) (hr : ∀ (i : Nat) (p : Nat × Array Value × Nat), l[i]? = some p → some p.1 ≠ row) : Bs w W1 l :=
 ⟨fun i p hp => blk_grown (h.blk i p hp) hg (hr i p hp), hb, h.ge, h.nd⟩
theorem put' (h : Bs w W l) (i : Nat) (hi : l[i]? = some (g, cs, t)) (j : Nat) (v : Value) {cs' : Array Value} (e : cs.setIfInBounds j v = cs') : Bs w (W.setCell ⟨g, j, none⟩ v) (l.set i (g, cs', t)) ∧ (l.set i (g, cs', t))[i]? = some (g, cs', t) :=
 e ▸ ⟨h.put i hi j v, List.getElem?_set_self (List.getElem?_eq_some_iff.1 hi).1⟩
theorem six {c0 c1 c2 c3 c4 c5 : Value} (h : Bs w W l) (i : Nat) (hi : l[i]? = some (g, #[c0, c1, c2, c3, c4, c5], t)) (v0 v1 v2 v3 v4 v5 : Value) :
  Bs w ((((((W.setCell ⟨g, 0, none⟩ v0).setCell ⟨g, 1, none⟩ v1).setCell ⟨g, 2, none⟩ v2).setCell ⟨g, 3, none⟩ v3).setCell ⟨g, 4, none⟩ v4).setCell ⟨g, 5, none⟩ v5) (l.set i (g, #[v0, v1, v2, v3, v4, v5], t)) := by
 obtain ⟨a0, b0⟩ := h.put' i hi 0 v0 (cs' := #[v0, c1, c2, c3, c4, c5]) rfl
 obtain ⟨a1, b1⟩ := a0.put' i b0 1 v1 (cs' := #[v0, v1, c2, c3, c4, c5]) rfl
 obtain ⟨a2, b2⟩ := a1.put' i b1 2 v2 (cs' := #[v0, v1, v2, c3, c4, c5]) rfl
 obtain ⟨a3, b3⟩ := a2.put' i b2 3 v3 (cs' := #[v0, v1, v2, v3, c4, c5]) rfl
 obtain ⟨a4, b4⟩ := a3.put' i b3 4 v4 (cs' := #[v0, v1, v2, v3, v4, c5]) rfl
 obtain ⟨a5, _⟩ := a4.put' i b4 5 v5 (cs' := #[v0, v1, v2, v3, v4, v5]) rfl
 rw [List.set_set, List.set_set, List.set_set, List.set_set, List.set_set] at a5
 exact a5
theorem three {c0 c1 c2 : Value} (h : Bs w W l) (i : Nat) (hi : l[i]? = some (g, #[c0, c1, c2], t)) (v0 v1 v2 : Value) :
  Bs w (((W.setCell ⟨g, 0, none⟩ v0).setCell ⟨g, 1, none⟩ v1).setCell ⟨g, 2, none⟩ v2) (l.set i (g, #[v0, v1, v2], t)) := by
 obtain ⟨a0, b0⟩ := h.put' i hi 0 v0 (cs' := #[v0, c1, c2]) rfl
 obtain ⟨a1, b1⟩ := a0.put' i b0 1 v1 (cs' := #[v0, v1, c2]) rfl
 obtain ⟨a2, _⟩ := a1.put' i b1 2 v2 (cs' := #[v0, v1, v2]) rfl
 rw [List.set_set, List.set_set] at a2
 exact a2
end Bs

/-- the library's table of powers is laid, below B -/
structure PT (B : Nat) (w : World) : Prop where
 tab : Lib.TabIs Tryz.prog w "internal/strconv.uint64pow10" .u64 Lib.pow10Tab
 lt : 6 < B
 le : B ≤ w.heap.size
theorem PT.move {B : Nat} {w W : World} (h : PT B w) (hb : ∀ k, k < B → W.heap[k]? = w.heap[k]?) (hs : w.heap.size ≤ W.heap.size) : PT B W := by
 have hgn : Tryz.prog.globalNamed "internal/strconv.uint64pow10" = some 6 := by kernel_rfl
 refine ⟨?_, h.lt, Nat.le_trans h.le hs⟩
 have h0 := h.tab
 unfold Lib.TabIs World.var? at h0 ⊢
 rw [hgn] at h0 ⊢
 simp only [Option.bind_some] at h0 ⊢
 rw [hb 6 h.lt]
 exact h0
theorem PT.below {B : Nat} {w W : World} (h : PT B w) (hb : Below w.heap.size w W) : PT B W := h.move (fun k hk => hb.block k (Nat.lt_of_lt_of_le hk h.le)) hb.size
end Go.Proofs.YtlofkjdcapbohaaGreatDoor.PConfKeeps
namespace Go.Proofs.YtlofkjdcapbohaaGreatDoor.PConfKeeps
open Go.RowKit Go.Proofs.YtlofkjdcapbohaaGreatDoorW.PrintWords Go.Proofs.YtlofkjdcapbohaaGreatDoorW.PrintLast Go.Proofs.YtlofkjdcapbohaaGreatDoorW.PrintMore
set_option linter.unusedVariables false
set_option linter.unusedSimpArgs false
theorem grown_trans {w W w1 : World} {r r' : Option Nat} (h : w.grownBy W r) (k : W.grownBy w1 r') (hr : ∀ i, i < w.heap.size → some i ≠ r → some i ≠ r') : w.grownBy w1 r :=
 ⟨k.os.trans h.os, k.tape.trans h.tape, k.output.trans h.output, Nat.le_trans h.size k.size, fun i hi hne => (k.block i (Nat.lt_of_lt_of_le hi h.size) (hr i hi hne)).trans (h.block i hi hne)⟩
theorem rowk {W : World} {base g : Nat} {cv : Value} {xs : List ByteArray} (h : Kd.R Kd.string 9 W base (fun _ => True) cv xs) (hn : some g ≠ cv.ownBlock) : Kd.R Kd.string 9 W base (fun k => k ≠ g) cv xs :=
 ⟨fun k hk he => hn (by rw [← he]; exact hk.symm), h.2⟩
structure RtAt (w : World) (base : Nat) (v0 : Value) (vc : Array Value) (cv : Value) (xs : List ByteArray) (W : World) : Prop where
 V : W.heap[w.heap.size]? = some (.cells vc 25 (0, 0))
 O : Kd.R Kd.string 9 W base (fun _ => True) cv xs
 G : w.grownBy W v0.ownBlock
 T : cv.ownBlock = v0.ownBlock ∨ ∃ b, cv.ownBlock = some b ∧ w.heap.size ≤ b
section
variable {w W w1 : World} {base : Nat} {v0 cv v1 : Value} {vc : Array Value} {xs ys : List ByteArray}
theorem RtAt.far (h : RtAt w base v0 vc cv xs W) : ∀ i, i < w.heap.size → some i ≠ v0.ownBlock → some i ≠ cv.ownBlock := fun i hi hne he => by
 rcases h.T with t | ⟨b, t, hb⟩
 ·exact hne (he.trans t)
 ·rw [t] at he; injection he with he; omega
theorem RtAt.below (h : RtAt w base v0 vc cv xs W) (hb : Below W.heap.size W w1) : RtAt w base v0 vc cv xs w1 :=
 ⟨blk_below h.V hb, Kd.R_below h.O hb, grown_trans h.G (grown_of_below hb v0.ownBlock) (fun _ _ hne => hne), h.T⟩
theorem RtAt.row (h : RtAt w base v0 vc cv xs W) (ho : Kd.R Kd.string 9 w1 base (fun _ => True) v1 ys) (hg : W.grownBy w1 cv.ownBlock) (hat : v1.ownBlock = cv.ownBlock ∨ ∃ b, v1.ownBlock = some b ∧ W.heap.size ≤ b) : RtAt w base v0 vc v1 ys w1 := by
 refine ⟨blk_grown h.V hg (Kd.R_ne h.O h.V (by decide)), ho, grown_trans h.G hg h.far, ?_⟩
 rcases hat with t | ⟨b, t, hb⟩
 ·rcases h.T with t' | ⟨b', t', hb'⟩
  ·exact .inl (t.trans t')
  ·exact .inr ⟨b', t.trans t', hb'⟩
 ·exact .inr ⟨b, t, Nat.le_trans h.G.size hb⟩
theorem six_same {g k : Nat} (hk : k ≠ g) (hlt : k < W.heap.size) (u0 u1 u2 u3 u4 u5 : Value) : ((((((W.setCell ⟨g, 0, none⟩ u0).setCell ⟨g, 1, none⟩ u1).setCell ⟨g, 2, none⟩ u2).setCell ⟨g, 3, none⟩ u3).setCell ⟨g, 4, none⟩ u4).setCell ⟨g, 5, none⟩ u5).heap[k]? = W.heap[k]? := by
 obtain ⟨o, ho⟩ : ∃ o, W.heap[k]? = some o := ⟨_, Array.getElem?_eq_getElem hlt⟩
 rw [ho]
 exact put6_far ho hk _ _ _ _ _ _
theorem RtAt.six (h : RtAt w base v0 vc cv xs W) {g : Nat} (h1 : w.heap.size < g) (hn : some g ≠ cv.ownBlock) (u0 u1 u2 u3 u4 u5 : Value) : RtAt w base v0 vc cv xs ((((((W.setCell ⟨g, 0, none⟩ u0).setCell ⟨g, 1, none⟩ u1).setCell ⟨g, 2, none⟩ u2).setCell ⟨g, 3, none⟩ u3).setCell ⟨g, 4, none⟩ u4).setCell ⟨g, 5, none⟩ u5) := by
 have hl := Nat.le_of_lt h1
 have hb : Below w.heap.size W ((((((W.setCell ⟨g, 0, none⟩ u0).setCell ⟨g, 1, none⟩ u1).setCell ⟨g, 2, none⟩ u2).setCell ⟨g, 3, none⟩ u3).setCell ⟨g, 4, none⟩ u4).setCell ⟨g, 5, none⟩ u5) := ((((((Below.refl _ W).setCell hl _).setCell hl _).setCell hl _).setCell hl _).setCell hl _).setCell hl _
 have hr := rowk h.O hn
 refine ⟨put6_far h.V (by omega) _ _ _ _ _ _, Kd.R_mono (Kd.R_far (Kd.R_far (Kd.R_far (Kd.R_far (Kd.R_far (Kd.R_far hr (fun _ hk => hk) _) (fun _ hk => hk) _) (fun _ hk => hk) _) (fun _ hk => hk) _) (fun _ hk => hk) _) (fun _ hk => hk) _) (fun _ _ => trivial), ⟨hb.os.trans h.G.os, hb.tape.trans h.G.tape, hb.output.trans h.G.output, Nat.le_trans h.G.size hb.size, fun i hi hne => (hb.block i hi).trans (h.G.block i hi hne)⟩, h.T⟩
theorem RtAt.low (h : RtAt w base v0 vc cv xs W) (hb : base ≤ w.heap.size) : base ≤ W.heap.size := Nat.le_trans hb h.G.size
end
section
variable {w : World} {ok : Nat → Prop} {v : S25} {A4 : Option Addr} {c4 : Nat} {A5 : Option Addr} {c5 : Nat}
theorem RdF.i (h : RdF w ok v A4 c4 A5 c5) : Kd.C k25 w A4 v.f4.length v.f4 := h.now.1
theorem RdF.li (h : RdF w ok v A4 c4 A5 c5) : v.f4.length ≤ c4 := h.2.1
theorem RdF.k (h : RdF w ok v A4 c4 A5 c5) : Kd.C Kd.string w A5 v.f5.length v.f5 := h.now.2.2.1
end
end Go.Proofs.YtlofkjdcapbohaaGreatDoor.PConfKeeps
namespace Go.Proofs.YtlofkjdcapbohaaGreatDoor.PConfKeeps
open Go.RowKit Go.Proofs.YtlofkjdcapbohaaGreatDoorW.PrintWords Go.Proofs.YtlofkjdcapbohaaGreatDoorW.PrintLast Go.Proofs.YtlofkjdcapbohaaGreatDoorW.PrintMore
set_option linter.unusedVariables false
set_option linter.unusedSimpArgs false

theorem at_drop {α : Type} {l l' : List α} {i : Nat} {s : α} (h : l.drop i = s :: l') : i < l.length ∧ l.drop (i + 1) = l' ∧ ∀ z, l.getD i z = s := by
 have hl : i < l.length := by
  apply Classical.byContradiction; intro hn
  rw [List.drop_eq_nil_of_le (by omega)] at h; cases h
 rw [List.drop_eq_getElem_cons hl] at h
 injection h with h1 h2
 exact ⟨hl, h2, fun z => by rw [List.getD_eq_getElem?_getD, List.getElem?_eq_getElem hl]; exact h1⟩
theorem Rd.F {w : World} {v : S25} {A4 : Option Addr} {c4 : Nat} {A5 : Option Addr} {c5 : Nat} (h : Rd w v A4 c4 A5 c5) : RdF w (fun k => k < w.heap.size) v A4 c4 A5 c5 := ⟨Kd.C_F k25_heap h.1, h.2.1, Kd.C_F Kd.heap_string h.2.2.1, h.2.2.2⟩
def Fck (k : Nat) (v : S25) : Option Int := conf_Check.f k v.f0 v.f1 v.f2 v.f3 v.f4 v.f5
def Fcl (k : Nat) (v : S25) : Option S25 := (conf_clone.f k v.f0 v.f1 v.f2 v.f3 v.f4 v.f5).bind fun t => some ⟨t.1, t.2.1, t.2.2.1, t.2.2.2.1, t.2.2.2.2.1, t.2.2.2.2.2⟩
theorem check_calls (k : Nat) (v : S25) (A4 : Option Addr) (c4 : Nat) (A5 : Option Addr) (c5 : Nat) (e1 : Int) (w : World) (hv : Rd w v A4 c4 A5 c5) (h : Fck k v = some e1) : Calls Tryz.prog 18 #[.agg #[.int .i64 v.f0, .bool v.f1, .int .i64 v.f2, .string v.f3, .slice A4 v.f4.length c4, .slice A5 v.f5.length c5]] w fun e w' => e = .returned (.int .i64 e1) ∧ Below w.heap.size w w' :=
 conf_Check.calls k v.f0 v.f1 v.f2 v.f3 A4 c4 v.f4 A5 c5 v.f5 e1 w hv.1 hv.2.1 hv.2.2.1 hv.2.2.2 h
theorem clone_calls (k : Nat) (v : S25) (A4 : Option Addr) (c4 : Nat) (A5 : Option Addr) (c5 : Nat) (r : S25) (w : World) (hv : Rd w v A4 c4 A5 c5) (h : Fcl k v = some r) : Calls Tryz.prog 21 #[.agg #[.int .i64 v.f0, .bool v.f1, .int .i64 v.f2, .string v.f3, .slice A4 v.f4.length c4, .slice A5 v.f5.length c5]] w fun e w' => ∃ E4 e4 E5 e5, e = .returned (.agg #[.int .i64 r.f0, .bool r.f1, .int .i64 r.f2, .string r.f3, .slice E4 r.f4.length e4, .slice E5 r.f5.length e5]) ∧ RdF w' (fun k => w.heap.size ≤ k) r E4 e4 E5 e5 ∧ Below w.heap.size w w' := by
 unfold Fcl at h
 obtain ⟨⟨t1, t2, t3, t4, t5, t6⟩, ht, h⟩ := Option.bind_eq_some_iff.1 h
 injection h with h
 subst h
 refine (conf_clone.calls k v.f0 v.f1 v.f2 v.f3 A4 c4 v.f4 A5 c5 v.f5 t1 t2 t3 t4 t5 t6 w hv.1 hv.2.1 hv.2.2.1 hv.2.2.2 ht).mono ?_
 rintro e w' ⟨v4, v5, rfl, h4, h5, hb⟩
 obtain ⟨A4', d4, rfl, l4, _⟩ := Kd.R_reads h4
 obtain ⟨A5', d5, rfl, l5, _⟩ := Kd.R_reads h5
 exact ⟨A4', d4, A5', d5, rfl, ⟨Kd.F_mono (Kd.R_F (Kd.R_bound h4)) (fun _ hk => hk.2.1), l4, Kd.F_mono (Kd.R_F (Kd.R_bound h5)) (fun _ hk => hk.2.1), l5⟩, hb⟩
theorem steps_calls (k : Nat) (s : ByteArray) (b : Bool) (l : List S95) (ok : Bool) (w : World) (h : conf_steps.f k s b = some (l, ok)) : Calls Tryz.prog 19 #[.string s, .bool b] w fun e w' => ∃ A c, e = .returned (.tuple #[.slice A l.length c, .bool ok]) ∧ Kd.C k95 w' A l.length l ∧ l.length ≤ c ∧ Below w.heap.size w w' := by
 refine (conf_steps.calls k s b l ok w h).mono ?_
 rintro e w' ⟨v, rfl, hr, hb⟩
 obtain ⟨A, c, rfl, hc, hC⟩ := Kd.R_reads hr
 exact ⟨A, c, rfl, hC, hc, hb⟩
end Go.Proofs.YtlofkjdcapbohaaGreatDoor.PConfKeeps
namespace Go.Proofs.YtlofkjdcapbohaaGreatDoor.PConfKeeps
open Go.RowKit Go.Proofs.YtlofkjdcapbohaaGreatDoorW.PrintWords Go.Proofs.YtlofkjdcapbohaaGreatDoorW.PrintLast Go.Proofs.YtlofkjdcapbohaaGreatDoorW.PrintMore
set_option linter.unusedVariables false
set_option linter.unusedSimpArgs false

def Fsm (k : Nat) (v x : S25) : Option Bool := mastkeep2_same.f k v.f0 v.f1 v.f2 v.f3 v.f4 v.f5 x.f0 x.f1 x.f2 x.f3 x.f4 x.f5
theorem same_calls (k : Nat) (v : S25) (A4 : Option Addr) (c4 : Nat) (A5 : Option Addr) (c5 : Nat) (x : S25) (B4 : Option Addr) (d4 : Nat) (B5 : Option Addr) (d5 : Nat) (b : Bool) (w : World) (hv : Rd w v A4 c4 A5 c5) (hx : Rd w x B4 d4 B5 d5) (h : Fsm k v x = some b) : Calls Tryz.prog 9 #[.agg #[.int .i64 v.f0, .bool v.f1, .int .i64 v.f2, .string v.f3, .slice A4 v.f4.length c4, .slice A5 v.f5.length c5], .agg #[.int .i64 x.f0, .bool x.f1, .int .i64 x.f2, .string x.f3, .slice B4 x.f4.length d4, .slice B5 x.f5.length d5]] w fun e w' => e = .returned (.bool b) ∧ Below w.heap.size w w' :=
 (mastkeep2_same.calls k v.f0 v.f1 v.f2 v.f3 A4 c4 v.f4 A5 c5 v.f5 x.f0 x.f1 x.f2 x.f3 B4 d4 x.f4 B5 d5 x.f5 b w hv.1 hv.2.1 hv.2.2.1 hv.2.2.2 hx.1 hx.2.1 hx.2.2.1 hx.2.2.2 h)
end Go.Proofs.YtlofkjdcapbohaaGreatDoor.PConfKeeps
