-- Made for this claim by a program of this session (xprint.py over the kit's printing program); Lean checks it.
import Derived.Test.YtllpaepiiiedgaaPAssetSamex0
import Derived.Test.YtllpaepiiiedgaaPAssetSamex2
import Derived.Test.YtllpaepiiiedgaaPAssetSamex3
import Derived.Test.YtllpaepiiiedgaaPAssetSamex4
import Derived.Test.YtllpaepiiiedgaaPAssetSamex5
namespace Go.Proofs.Ytllpaepiiiedgaa.PAssetSame
open Go.RowKit Go.Proofs.YtllpaepiiiedgaaW.PrintWords Go.Proofs.YtllpaepiiiedgaaW.PrintLast Go.Proofs.YtllpaepiiiedgaaW.PrintMore
attribute [local go_sem] max2_int min2_int max_two min_two max_three min_three max_four min_four   -- for this text's walks alone
set_option linter.unusedVariables false
set_option linter.unusedSimpArgs false

/-! ### asset_divided: function 11 -/
structure DvAt (w : World) (g : Nat) (s : ByteArray) (b : Bool) (u v : Value) (l : List S72) (W : World) : Prop where
  Q : W.heap[g]? = some (.cells #[.string s, .bool b, u] 50 (0, 0))
  G : w.heap.size ≤ g
  B : Below w.heap.size w W
  V : Kd.R k72 72 W w.heap.size (fun _ => True) v l
theorem DvAt.below {w W W1 : World} {g : Nat} {s : ByteArray} {b : Bool} {u v : Value} {l : List S72} (h : DvAt w g s b u v l W) (hb : Below W.heap.size W W1) : DvAt w g s b u v l W1 :=
  ⟨blk_below h.Q hb, h.G, below_step h.B hb, Kd.R_below h.V hb⟩
theorem DvAt.drewN {w W : World} {g : Nat} {s : ByteArray} {b : Bool} {u v : Value} {l : List S72} (h : DvAt w g s b u v l W) (n : Nat) : DvAt w g s b u v l (W.drewN n) := h.below (pw_below_drewN (Below.refl _ _) n)
theorem DvAt.drew {w W : World} {g : Nat} {s : ByteArray} {b : Bool} {u v : Value} {l : List S72} (h : DvAt w g s b u v l W) : DvAt w g s b u v l W.drew := h.below (below_drew (Below.refl _ _))
theorem DvAt.alloc {w W : World} {g : Nat} {s : ByteArray} {b : Bool} {u v : Value} {l : List S72} (h : DvAt w g s b u v l W) (o : Obj) : DvAt w g s b u v l (W.alloc o) := h.below (below_alloc (Below.refl _ _) o)
theorem DvAt.app {w W W1 : World} {g : Nat} {s : ByteArray} {b : Bool} {u v v' : Value} {l l' : List S72} (h : DvAt w g s b u v l W) (ho : Kd.R k72 72 W1 w.heap.size (fun _ => True) v' l') (hb : Below w.heap.size w W1) (hg : W.grownBy W1 v.ownBlock) : DvAt w g s b u v' l' W1 :=
  ⟨blk_grown h.Q hg (Kd.R_ne h.V h.Q (by decide)), h.G, hb, ho⟩
theorem DvAt.set {w W : World} {g : Nat} {s : ByteArray} {b : Bool} {u v : Value} {l : List S72} (h : DvAt w g s b u v l W) (u' : Value) : DvAt w g s b u' v l (W.setCell ⟨g, 2, none⟩ u') :=
  ⟨blk_put h.Q 2 u' rfl, h.G, below_set h.B h.G, Kd.R_set h.V h.Q (by decide) 2 u'⟩
def addTok (s : ByteArray) (kind i j : Int) : S72 := ⟨⟨kind, if kind = 4 then ⟨#[32]⟩ else s.extract i.toNat j.toNat⟩, i, j⟩
theorem addTok_blank (s : ByteArray) {kind : Int} (i j : Int) (h : kind = 4) : addTok s kind i j = ⟨⟨kind, ⟨#[32]⟩⟩, i, j⟩ := by unfold addTok; rw [if_pos h]
theorem addTok_other (s : ByteArray) {kind : Int} (i j : Int) (h : ¬ kind = 4) : addTok s kind i j = ⟨⟨kind, s.extract i.toNat j.toNat⟩, i, j⟩ := by unfold addTok; rw [if_neg h]
set_option maxHeartbeats 1000000 in
set_option maxRecDepth 100000 in
theorem add_any (w0 W : World) (g : Nat) (s : ByteArray) (b : Bool) (v : Value) (l : List S72) (kind i j : Int) (h : DvAt w0 g s b v v l W) (hi : 0 ≤ i) (hij : i ≤ j) (hj : j ≤ s.size) (hl : l.length ≤ 1000000) :
    Calls Try.prog 22 #[.pointer (some ⟨g, 0, none⟩), .int .i64 kind, .int .i64 i, .int .i64 j] W fun e W' => e = .returned (.tuple #[]) ∧ ∃ v', DvAt w0 g s b v' v' (l ++ [addTok s kind i j]) W' := by
  obtain ⟨A, c, rfl⟩ := Kd.R_slice h.V
  have HP := Aside0.mk h
  have c0 : W.cell? ⟨g, 0, none⟩ = some (.string s) := blk_cell h.Q 0
  have hu72 := Try.underlying72
  have hu33 := Try.underlying33
  have hgt : g < W.heap.size := blk_lt h.Q
  have hw0 : w0.heap.size ≤ W.heap.size := below_size h.B
  clear h
  by_cases hk : kind = 4
  · have hk4 : (kind == 4) = true := beq_iff_eq.2 hk
    have HK := Aside0.mk hk
    clear hk
    have HN := Aside0.mk (show some W.heap.size ≠ (Value.slice A l.length c).ownBlock from fun e => absurd (Kd.R_lt HP.out.V _ e.symm) (Nat.lt_irrefl _))
    go_enter Try.func22, Try.ntmps22
    go_wp2_with fail
    have HT := Aside0.mk (blk_new W (.cells #[.int .i64 kind, .string (⟨#[32]⟩ : ByteArray), .int .i64 i, .int .i64 j] 72))
    have HP' := Aside0.mk (HP.out.alloc (.cells #[.int .i64 kind, .string (⟨#[32]⟩ : ByteArray), .int .i64 i, .int .i64 j] 72))
    clear HP
    have HP := HP'
    clear HP' c0 hgt hw0
    generalize W.heap.size = t at HT HN ⊢
    generalize W.alloc _ = W1 at HT HP ⊢
    generalize hx : (⟨#[32]⟩ : ByteArray) = x at HT ⊢
    have hS : (fun w' : World => w'.cell? ⟨g, 2, none⟩ = some (.slice A l.length c) ∧ w'.cell? ⟨t, 0, none⟩ = some (.int .i64 kind) ∧ w'.cell? ⟨t, 1, none⟩ = some (.string x) ∧ w'.cell? ⟨t, 2, none⟩ = some (.int .i64 i) ∧ w'.cell? ⟨t, 3, none⟩ = some (.int .i64 j)) W1.drew := ⟨blk_cell HP.out.Q 2, blk_cell HT.out 0, blk_cell HT.out 1, blk_cell HT.out 2, blk_cell HT.out 3⟩
    refine start_ (n := 11) (S := fun w' => w'.cell? ⟨g, 2, none⟩ = some (.slice A l.length c) ∧ w'.cell? ⟨t, 0, none⟩ = some (.int .i64 kind) ∧ w'.cell? ⟨t, 1, none⟩ = some (.string x) ∧ w'.cell? ⟨t, 2, none⟩ = some (.int .i64 i) ∧ w'.cell? ⟨t, 3, none⟩ = some (.int .i64 j)) (ds := [10]) #[false, false, false, false, false, false, false, false, false, false, false] (by kernel_rfl) rfl rfl hS (fun hHeld => ?_)
    have HT1 := Aside0.mk HT.out
    have HP1 := Aside0.mk HP.out.drew
    have HT2 := Aside0.mk (show W1.drew.heap[t]? = _ from HT1.out)
    clear HT HP HT1 hS
    rename_i hHeld0
    generalize W1.drew = W4 at HT2 HP1 hHeld ⊢
    have HT := HT2
    have HP := HP1
    clear HT2 HP1
    refine pure_ (i := 0) (N := some 25) (v := ?_) (a' := ?_) #[true, false, false, false, false, false, false, false, false, false, false] rfl rfl (by kernel_rfl) (fun _ _ _ h => h) (Or.inl ⟨by rfl, ?_⟩) ?_ ?_
    rotate_left
    · intro w'
      go_simp
      with_reducible rfl
    rotate_left
    · simp only [Act.put, List.setIfInBounds_toArray, List.set_cons_zero, List.set_cons_succ, i64_w, i32_w]
      rfl
    refine pure_ (i := 1) (N := some 26) (v := ?_) (a' := ?_) #[true, true, false, false, false, false, false, false, false, false, false] rfl rfl (by kernel_rfl) (fun _ _ _ h => h) (Or.inl ⟨by rfl, ?_⟩) ?_ ?_
    rotate_left
    · intro w'
      go_simp
      with_reducible rfl
    rotate_left
    · simp only [Act.put, List.setIfInBounds_toArray, List.set_cons_zero, List.set_cons_succ, i64_w, i32_w]
      rfl
    refine pure_ (i := 2) (N := some 27) (v := ?_) (a' := ?_) #[true, true, true, false, false, false, false, false, false, false, false] rfl rfl (by kernel_rfl) (fun _ _ _ h => h) (Or.inl ⟨by rfl, ?_⟩) ?_ ?_
    rotate_left
    · intro w'
      go_simp
      with_reducible rfl
    rotate_left
    · simp only [Act.put, List.setIfInBounds_toArray, List.set_cons_zero, List.set_cons_succ, i64_w, i32_w]
      rfl
    refine pure_ (i := 3) (N := some 28) (v := ?_) (a' := ?_) #[true, true, true, true, false, false, false, false, false, false, false] rfl rfl (by kernel_rfl) (fun _ _ _ h => h) (Or.inl ⟨by rfl, ?_⟩) ?_ ?_
    rotate_left
    · intro w'
      go_simp
      with_reducible rfl
    rotate_left
    · simp only [Act.put, List.setIfInBounds_toArray, List.set_cons_zero, List.set_cons_succ, i64_w, i32_w]
      rfl
    refine take_ (i := 4) (N := some 29) (v := ?_) (a' := ?_) #[true, true, true, true, true, false, false, false, false, false, false] rfl rfl (by kernel_rfl) (fun _ _ _ h => h) (Or.inl ⟨by rfl, ?_⟩) hHeld ?_ ?_
    rotate_left
    · rintro w' ⟨s0, s1, s2, s3, s4⟩
      go_simp
      with_reducible rfl
    rotate_left
    · simp only [Act.put, List.setIfInBounds_toArray, List.set_cons_zero, List.set_cons_succ, i64_w, i32_w]
      rfl
    refine take_ (i := 5) (N := some 30) (v := ?_) (a' := ?_) #[true, true, true, true, true, true, false, false, false, false, false] rfl rfl (by kernel_rfl) (fun _ _ _ h => h) (Or.inl ⟨by rfl, ?_⟩) hHeld ?_ ?_
    rotate_left
    · rintro w' ⟨s0, s1, s2, s3, s4⟩
      go_simp
      with_reducible rfl
    rotate_left
    · simp only [Act.put, List.setIfInBounds_toArray, List.set_cons_zero, List.set_cons_succ, i64_w, i32_w]
      rfl
    refine one_ (i := 6) (N := some 31) #[true, true, true, true, true, true, true, false, false, false, false] rfl rfl (by kernel_rfl) (by decide) (fun K hK => ?_)
    refine value_ (w1 := ?_) (v := ?_) (by rfl) rfl ?_ ?_
    rotate_left 2
    · go_simp
      constructor
      · rfl
      · rfl
    refine hK.out _ _ ⟨blk_cell (HP.out.alloc _).Q 2, blk_cell (blk_alloc HT.out _) 0, blk_cell (blk_alloc HT.out _) 1, blk_cell (blk_alloc HT.out _) 2, blk_cell (blk_alloc HT.out _) 3⟩ (fun hHeld => ?_)
    clear hK K
    refine norm_ (a' := ?_) ?_ ?_
    rotate_left
    · show Act.put _ (some 31) _ = _
      simp only [Act.put, List.setIfInBounds_toArray, List.set_cons_zero, List.set_cons_succ, i64_w, i32_w]
      rfl
    refine one_ (i := 7) (N := some 32) #[true, true, true, true, true, true, true, true, false, false, false] rfl rfl (by kernel_rfl) (by decide) (fun K hK => ?_)
    refine Kd.R_append_step k72 (w0 := w0) w0.heap.size (by rfl) (.tmp 29) (.tmp 31) 36 72 (.agg #[.int .i64 0, .string ⟨#[]⟩, .int .i64 0, .int .i64 0]) 40 rfl Try.underlying36 info72 rfl (by decide) (by omega) (.slice A l.length c) l (⟨⟨kind, x⟩, i, j⟩ : S72) [.int .i64 kind, .string x, .int .i64 i, .int .i64 j] (fun _ => True) (fun _ => False) rfl rfl ?aP (fun _ hk => hk.elim) (fun _ _ => trivial) ?aO ?aB ?aS ?aL ?_
    (case aP => exact k72_mkM _ _ _ (⟨⟨kind, x⟩, i, j⟩ : S72))
    (case aB => exact HP.out.B)
    (case aO => exact HP.out.V)
    (case aS => exact below_size HP.out.B)
    (case aL => omega)
    intro v5 W6 ho hb hg hat
    have HP6 := Aside0.mk (HP.out.app ho hb hg)
    have HT6 := Aside0.mk (blk_grown HT.out hg HN.out)
    clear HP ho hb hg hat hHeld
    obtain ⟨A5, c5, eo5⟩ := Kd.R_slice HP6.out.V
    subst eo5
    refine hK.out _ _ ⟨blk_cell HP6.out.Q 2, blk_cell HT6.out 0, blk_cell HT6.out 1, blk_cell HT6.out 2, blk_cell HT6.out 3⟩ (fun hHeld => ?_)
    clear hK K
    refine norm_ (a' := ?_) ?_ ?_
    rotate_left
    · show Act.put _ (some 32) _ = _
      simp only [Act.put, List.setIfInBounds_toArray, List.set_cons_zero, List.set_cons_succ, i64_w, i32_w]
      rfl
    refine pure_ (i := 8) (N := some 33) (v := ?_) (a' := ?_) #[true, true, true, true, true, true, true, true, true, false, false] rfl rfl (by kernel_rfl) (fun _ _ _ h => h) (Or.inl ⟨by rfl, ?_⟩) ?_ ?_
    rotate_left
    · intro w'
      go_simp
      with_reducible rfl
    rotate_left
    · simp only [Act.put, List.setIfInBounds_toArray, List.set_cons_zero, List.set_cons_succ, i64_w, i32_w]
      rfl
    refine pure_ (i := 9) (N := some 34) (v := ?_) (a' := ?_) #[true, true, true, true, true, true, true, true, true, true, false] rfl rfl (by kernel_rfl) (fun _ _ _ h => h) (Or.inl ⟨by rfl, ?_⟩) ?_ ?_
    rotate_left
    · intro w'
      go_simp
      with_reducible rfl
    rotate_left
    · simp only [Act.put, List.setIfInBounds_toArray, List.set_cons_zero, List.set_cons_succ, i64_w, i32_w]
      rfl
    refine last_ (i := 10) (N := none) #[true, true, true, true, true, true, true, true, true, true, true] rfl rfl (by kernel_rfl) (by decide) (fun K hK => ?_)
    have hfz := blk_frozen HP6.out.Q 2
    refine skip_ (w1 := ?_) (by rfl) rfl ?_ ?_
    rotate_left
    · go_simp
      rfl
    refine hK.out _ _ ?_
    clear hK K
    refine done_ (by kernel_rfl) ?_
  
    go_wp2
    go_end0
    refine ⟨rfl, .slice A5 (l ++ [(⟨⟨kind, x⟩, i, j⟩ : S72)]).length c5, ?_⟩
    rw [addTok_blank s i j HK.out, hx]
    have HF := HP6.out.set (.slice A5 (l ++ [(⟨⟨kind, x⟩, i, j⟩ : S72)]).length c5)
    rw [List.length_append] at HF ⊢
    exact HF
  · have hk4 : (kind == 4) = false := beq_eq_false_iff_ne.2 hk
    have HK := Aside0.mk hk
    clear hk
    have HN := Aside0.mk (show some W.heap.size ≠ (Value.slice A l.length c).ownBlock from fun e => absurd (Kd.R_lt HP.out.V _ e.symm) (Nat.lt_irrefl _))
    go_enter Try.func22, Try.ntmps22
    go_wp2_with fail
    have HT := Aside0.mk (blk_new W (.cells #[.int .i64 kind, .string (s.extract i.toNat j.toNat), .int .i64 i, .int .i64 j] 72))
    have HP' := Aside0.mk (HP.out.alloc (.cells #[.int .i64 kind, .string (s.extract i.toNat j.toNat), .int .i64 i, .int .i64 j] 72))
    clear HP
    have HP := HP'
    clear HP' c0 hgt hw0
    generalize W.heap.size = t at HT HN ⊢
    generalize W.alloc _ = W1 at HT HP ⊢
    generalize hx : (s.extract i.toNat j.toNat) = x at HT ⊢
    have hS : (fun w' : World => w'.cell? ⟨g, 2, none⟩ = some (.slice A l.length c) ∧ w'.cell? ⟨t, 0, none⟩ = some (.int .i64 kind) ∧ w'.cell? ⟨t, 1, none⟩ = some (.string x) ∧ w'.cell? ⟨t, 2, none⟩ = some (.int .i64 i) ∧ w'.cell? ⟨t, 3, none⟩ = some (.int .i64 j)) W1.drew := ⟨blk_cell HP.out.Q 2, blk_cell HT.out 0, blk_cell HT.out 1, blk_cell HT.out 2, blk_cell HT.out 3⟩
    refine start_ (n := 11) (S := fun w' => w'.cell? ⟨g, 2, none⟩ = some (.slice A l.length c) ∧ w'.cell? ⟨t, 0, none⟩ = some (.int .i64 kind) ∧ w'.cell? ⟨t, 1, none⟩ = some (.string x) ∧ w'.cell? ⟨t, 2, none⟩ = some (.int .i64 i) ∧ w'.cell? ⟨t, 3, none⟩ = some (.int .i64 j)) (ds := [10]) #[false, false, false, false, false, false, false, false, false, false, false] (by kernel_rfl) rfl rfl hS (fun hHeld => ?_)
    have HT1 := Aside0.mk HT.out
    have HP1 := Aside0.mk HP.out.drew
    have HT2 := Aside0.mk (show W1.drew.heap[t]? = _ from HT1.out)
    clear HT HP HT1 hS
    rename_i hHeld0
    generalize W1.drew = W4 at HT2 HP1 hHeld ⊢
    have HT := HT2
    have HP := HP1
    clear HT2 HP1
    refine pure_ (i := 0) (N := some 25) (v := ?_) (a' := ?_) #[true, false, false, false, false, false, false, false, false, false, false] rfl rfl (by kernel_rfl) (fun _ _ _ h => h) (Or.inl ⟨by rfl, ?_⟩) ?_ ?_
    rotate_left
    · intro w'
      go_simp
      with_reducible rfl
    rotate_left
    · simp only [Act.put, List.setIfInBounds_toArray, List.set_cons_zero, List.set_cons_succ, i64_w, i32_w]
      rfl
    refine pure_ (i := 1) (N := some 26) (v := ?_) (a' := ?_) #[true, true, false, false, false, false, false, false, false, false, false] rfl rfl (by kernel_rfl) (fun _ _ _ h => h) (Or.inl ⟨by rfl, ?_⟩) ?_ ?_
    rotate_left
    · intro w'
      go_simp
      with_reducible rfl
    rotate_left
    · simp only [Act.put, List.setIfInBounds_toArray, List.set_cons_zero, List.set_cons_succ, i64_w, i32_w]
      rfl
    refine pure_ (i := 2) (N := some 27) (v := ?_) (a' := ?_) #[true, true, true, false, false, false, false, false, false, false, false] rfl rfl (by kernel_rfl) (fun _ _ _ h => h) (Or.inl ⟨by rfl, ?_⟩) ?_ ?_
    rotate_left
    · intro w'
      go_simp
      with_reducible rfl
    rotate_left
    · simp only [Act.put, List.setIfInBounds_toArray, List.set_cons_zero, List.set_cons_succ, i64_w, i32_w]
      rfl
    refine pure_ (i := 3) (N := some 28) (v := ?_) (a' := ?_) #[true, true, true, true, false, false, false, false, false, false, false] rfl rfl (by kernel_rfl) (fun _ _ _ h => h) (Or.inl ⟨by rfl, ?_⟩) ?_ ?_
    rotate_left
    · intro w'
      go_simp
      with_reducible rfl
    rotate_left
    · simp only [Act.put, List.setIfInBounds_toArray, List.set_cons_zero, List.set_cons_succ, i64_w, i32_w]
      rfl
    refine take_ (i := 4) (N := some 29) (v := ?_) (a' := ?_) #[true, true, true, true, true, false, false, false, false, false, false] rfl rfl (by kernel_rfl) (fun _ _ _ h => h) (Or.inl ⟨by rfl, ?_⟩) hHeld ?_ ?_
    rotate_left
    · rintro w' ⟨s0, s1, s2, s3, s4⟩
      go_simp
      with_reducible rfl
    rotate_left
    · simp only [Act.put, List.setIfInBounds_toArray, List.set_cons_zero, List.set_cons_succ, i64_w, i32_w]
      rfl
    refine take_ (i := 5) (N := some 30) (v := ?_) (a' := ?_) #[true, true, true, true, true, true, false, false, false, false, false] rfl rfl (by kernel_rfl) (fun _ _ _ h => h) (Or.inl ⟨by rfl, ?_⟩) hHeld ?_ ?_
    rotate_left
    · rintro w' ⟨s0, s1, s2, s3, s4⟩
      go_simp
      with_reducible rfl
    rotate_left
    · simp only [Act.put, List.setIfInBounds_toArray, List.set_cons_zero, List.set_cons_succ, i64_w, i32_w]
      rfl
    refine one_ (i := 6) (N := some 31) #[true, true, true, true, true, true, true, false, false, false, false] rfl rfl (by kernel_rfl) (by decide) (fun K hK => ?_)
    refine value_ (w1 := ?_) (v := ?_) (by rfl) rfl ?_ ?_
    rotate_left 2
    · go_simp
      constructor
      · rfl
      · rfl
    refine hK.out _ _ ⟨blk_cell (HP.out.alloc _).Q 2, blk_cell (blk_alloc HT.out _) 0, blk_cell (blk_alloc HT.out _) 1, blk_cell (blk_alloc HT.out _) 2, blk_cell (blk_alloc HT.out _) 3⟩ (fun hHeld => ?_)
    clear hK K
    refine norm_ (a' := ?_) ?_ ?_
    rotate_left
    · show Act.put _ (some 31) _ = _
      simp only [Act.put, List.setIfInBounds_toArray, List.set_cons_zero, List.set_cons_succ, i64_w, i32_w]
      rfl
    refine one_ (i := 7) (N := some 32) #[true, true, true, true, true, true, true, true, false, false, false] rfl rfl (by kernel_rfl) (by decide) (fun K hK => ?_)
    refine Kd.R_append_step k72 (w0 := w0) w0.heap.size (by rfl) (.tmp 29) (.tmp 31) 36 72 (.agg #[.int .i64 0, .string ⟨#[]⟩, .int .i64 0, .int .i64 0]) 40 rfl Try.underlying36 info72 rfl (by decide) (by omega) (.slice A l.length c) l (⟨⟨kind, x⟩, i, j⟩ : S72) [.int .i64 kind, .string x, .int .i64 i, .int .i64 j] (fun _ => True) (fun _ => False) rfl rfl ?aP (fun _ hk => hk.elim) (fun _ _ => trivial) ?aO ?aB ?aS ?aL ?_
    (case aP => exact k72_mkM _ _ _ (⟨⟨kind, x⟩, i, j⟩ : S72))
    (case aB => exact HP.out.B)
    (case aO => exact HP.out.V)
    (case aS => exact below_size HP.out.B)
    (case aL => omega)
    intro v5 W6 ho hb hg hat
    have HP6 := Aside0.mk (HP.out.app ho hb hg)
    have HT6 := Aside0.mk (blk_grown HT.out hg HN.out)
    clear HP ho hb hg hat hHeld
    obtain ⟨A5, c5, eo5⟩ := Kd.R_slice HP6.out.V
    subst eo5
    refine hK.out _ _ ⟨blk_cell HP6.out.Q 2, blk_cell HT6.out 0, blk_cell HT6.out 1, blk_cell HT6.out 2, blk_cell HT6.out 3⟩ (fun hHeld => ?_)
    clear hK K
    refine norm_ (a' := ?_) ?_ ?_
    rotate_left
    · show Act.put _ (some 32) _ = _
      simp only [Act.put, List.setIfInBounds_toArray, List.set_cons_zero, List.set_cons_succ, i64_w, i32_w]
      rfl
    refine pure_ (i := 8) (N := some 33) (v := ?_) (a' := ?_) #[true, true, true, true, true, true, true, true, true, false, false] rfl rfl (by kernel_rfl) (fun _ _ _ h => h) (Or.inl ⟨by rfl, ?_⟩) ?_ ?_
    rotate_left
    · intro w'
      go_simp
      with_reducible rfl
    rotate_left
    · simp only [Act.put, List.setIfInBounds_toArray, List.set_cons_zero, List.set_cons_succ, i64_w, i32_w]
      rfl
    refine pure_ (i := 9) (N := some 34) (v := ?_) (a' := ?_) #[true, true, true, true, true, true, true, true, true, true, false] rfl rfl (by kernel_rfl) (fun _ _ _ h => h) (Or.inl ⟨by rfl, ?_⟩) ?_ ?_
    rotate_left
    · intro w'
      go_simp
      with_reducible rfl
    rotate_left
    · simp only [Act.put, List.setIfInBounds_toArray, List.set_cons_zero, List.set_cons_succ, i64_w, i32_w]
      rfl
    refine last_ (i := 10) (N := none) #[true, true, true, true, true, true, true, true, true, true, true] rfl rfl (by kernel_rfl) (by decide) (fun K hK => ?_)
    have hfz := blk_frozen HP6.out.Q 2
    refine skip_ (w1 := ?_) (by rfl) rfl ?_ ?_
    rotate_left
    · go_simp
      rfl
    refine hK.out _ _ ?_
    clear hK K
    refine done_ (by kernel_rfl) ?_
  
    go_wp2
    go_end0
    refine ⟨rfl, .slice A5 (l ++ [(⟨⟨kind, x⟩, i, j⟩ : S72)]).length c5, ?_⟩
    rw [addTok_other s i j HK.out, hx]
    have HF := HP6.out.set (.slice A5 (l ++ [(⟨⟨kind, x⟩, i, j⟩ : S72)]).length c5)
    rw [List.length_append] at HF ⊢
    exact HF
theorem DvAt.is {w W : World} {g : Nat} {s : ByteArray} {b : Bool} {A : Option Addr} {c : Nat} {v : Value} {l : List S72} (h : DvAt w g s b (.slice A l.length c) v l W) : IsS50 W W g s b l := ⟨A, c, h.Q, trivial, trivial⟩
theorem comment_at {w0 W : World} {g : Nat} {s : ByteArray} {b : Bool} {v : Value} {l : List S72} (k : Nat) (i : Int) (t : Int × ByteArray × Bool) (h : DvAt w0 g s b v v l W) (hG : Gh.G W) (hf : asset_scanner_comment.f k s b l i = some t) :
    Calls Try.prog 20 #[.pointer (some ⟨g, 0, none⟩), .int .i64 i] W fun e W' => e = .returned (.int .i64 t.1) ∧ DvAt w0 g s b v v l W' := by
  obtain ⟨A, c, rfl⟩ := Kd.R_slice h.V
  obtain ⟨r1, r2, r3⟩ := t
  refine (asset_scanner_comment.calls k g s b l i r1 r2 r3 W W h.is (Below.refl _ _) hf hG).mono ?_
  rintro e W' ⟨rfl, _, hb, _⟩
  exact ⟨rfl, h.below hb⟩
theorem begins_at {w0 W : World} {g : Nat} {s : ByteArray} {b : Bool} {v : Value} {l : List S72} (k : Nat) (i : Int) (t : Bool × ByteArray × Bool) (h : DvAt w0 g s b v v l W) (hG : Gh.G W) (hf : asset_scanner_begins.f k s b l i = some t) :
    Calls Try.prog 26 #[.pointer (some ⟨g, 0, none⟩), .int .i64 i] W fun e W' => e = .returned (.bool t.1) ∧ DvAt w0 g s b v v l W' := by
  obtain ⟨A, c, rfl⟩ := Kd.R_slice h.V
  obtain ⟨r1, r2, r3⟩ := t
  refine (asset_scanner_begins.calls k g s b l i r1 r2 r3 W W h.is (Below.refl _ _) hf hG).mono ?_
  rintro e W' ⟨rfl, _, hb, _⟩
  exact ⟨rfl, h.below hb⟩
theorem blank_at {w0 W : World} {g : Nat} {s : ByteArray} {b : Bool} {v : Value} {l : List S72} (k : Nat) (i : Int) (t : Int × Int × Int × ByteArray × Bool) (h : DvAt w0 g s b v v l W) (hG : Gh.G W) (hf : asset_scanner_blank.f k s b l i = some t) :
    Calls Try.prog 21 #[.pointer (some ⟨g, 0, none⟩), .int .i64 i] W fun e W' => e = .returned (.tuple #[.int .i64 t.1, .int .i64 t.2.1, .int .i64 t.2.2.1]) ∧ DvAt w0 g s b v v l W' := by
  obtain ⟨A, c, rfl⟩ := Kd.R_slice h.V
  obtain ⟨r1, r2, r3, r4, r5⟩ := t
  refine (asset_scanner_blank.calls k g s b l i r1 r2 r3 r4 r5 W W h.is (Below.refl _ _) hf hG).mono ?_
  rintro e W' ⟨rfl, _, hb, _⟩
  exact ⟨rfl, h.below hb⟩
theorem text_at {w0 W : World} {g : Nat} {s : ByteArray} {b : Bool} {v : Value} {l : List S72} (k : Nat) (i : Int) (t : Int × ByteArray × Bool) (h : DvAt w0 g s b v v l W) (hf : asset_scanner_text.f k s b l i = some t) :
    Calls Try.prog 23 #[.pointer (some ⟨g, 0, none⟩), .int .i64 i] W fun e W' => e = .returned (.int .i64 t.1) ∧ DvAt w0 g s b v v l W' := by
  obtain ⟨A, c, rfl⟩ := Kd.R_slice h.V
  obtain ⟨r1, r2, r3⟩ := t
  refine (asset_scanner_text.calls k g s b l i r1 r2 r3 W W h.is (Below.refl _ _) hf).mono ?_
  rintro e W' ⟨rfl, _, hb, _⟩
  exact ⟨rfl, h.below hb⟩
theorem checked_at {w0 W : World} {g : Nat} {s : ByteArray} {b : Bool} {v : Value} {l : List S72} (k : Nat) (i j : Int) (t : Int × ByteArray × Bool) (h : DvAt w0 g s b v v l W) (hf : asset_scanner_checked.f k s b l i j = some t) :
    Calls Try.prog 24 #[.pointer (some ⟨g, 0, none⟩), .int .i64 i, .int .i64 j] W fun e W' => e = .returned (.int .i64 t.1) ∧ DvAt w0 g s b v v l W' := by
  obtain ⟨A, c, rfl⟩ := Kd.R_slice h.V
  obtain ⟨r1, r2, r3⟩ := t
  refine (asset_scanner_checked.calls k g s b l i j r1 r2 r3 W W h.is (Below.refl _ _) hf).mono ?_
  rintro e W' ⟨rfl, _, hb, _⟩
  exact ⟨rfl, h.below hb⟩
theorem isMark_at {w0 W : World} {g : Nat} {s : ByteArray} {b : Bool} {v : Value} {l : List S72} (i : Int) (t : Bool × ByteArray × Bool) (h : DvAt w0 g s b v v l W) (hf : asset_scanner_isMark.f s b l i = some t) :
    Calls Try.prog 25 #[.pointer (some ⟨g, 0, none⟩), .int .u8 i] W fun e W' => e = .returned (.bool t.1) ∧ DvAt w0 g s b v v l W' := by
  obtain ⟨A, c, rfl⟩ := Kd.R_slice h.V
  obtain ⟨r1, r2, r3⟩ := t
  refine (asset_scanner_isMark.calls g s b l i r1 r2 r3 W W h.is (Below.refl _ _) hf).mono ?_
  rintro e W' ⟨rfl, _, hb, _⟩
  exact ⟨rfl, h.below hb⟩
def dvOne (k : Nat) (s : ByteArray) (b : Bool) (l : List S72) (i : Int) : Option Bool :=
  (asset_isBlank.f (bt s i)).bind fun t2 => if t2 = true then some true else (asset_scanner_comment.f k s b l i).bind fun t => some (decide (t.1 ≥ 0))
def dvWord : Nat → ByteArray → Bool → List S72 → Int → Option Int
  | 0, _, _, _, _ => none
  | k + 1, s, b, l, e => if e < (s.size : Int) then (asset_scanner_begins.f k s b l e).bind fun t => if t.1 = true then some e else dvWord k s b l (e + 1) else some e
def dvLoop : Nat → ByteArray → Bool → List S72 → Int → Option (List S72 × Int × Int)
  | 0, _, _, _, _ => none
  | k + 1, s, b, l, i =>
    if i < (s.size : Int) then
      if 0 ≤ i ∧ l.length ≤ 1000000 then
        (asset_badByte.f (bt s i)).bind fun t1 => if t1 = true then some ([], i, 9) else
        (dvOne k s b l i).bind fun t3 =>
        if t3 = true then
          (asset_scanner_blank.f k s b l i).bind fun t => if t.2.2.1 = 0 then (if i ≤ t.1 ∧ t.1 ≤ (s.size : Int) then dvLoop k s b (l ++ [addTok s 4 i t.1]) t.1 else none) else some ([], t.2.1, t.2.2.1)
        else if (bt s i == 34 || bt s i == 39) = true then
          (asset_scanner_text.f k s b l i).bind fun t => if t.1 < 0 then some ([], i, 8) else
            (asset_scanner_checked.f k s b l i t.1).bind fun u => if u.1 ≥ 0 then some ([], u.1, 9) else
              if i ≤ t.1 ∧ t.1 ≤ (s.size : Int) then dvLoop k s b (l ++ [addTok s 2 i t.1]) t.1 else none
        else (asset_scanner_isMark.f s b l (bt s i)).bind fun t => if t.1 = true then dvLoop k s b (l ++ [addTok s 3 i (i + 1)]) (i + 1) else
          (dvWord k s b l (i + 1)).bind fun e => if i ≤ e ∧ e ≤ (s.size : Int) then dvLoop k s b (l ++ [addTok s 1 i e]) e else none
      else none
    else some (l, 0, 0)
def asset_divided.f (k : Nat) (s : ByteArray) (b : Bool) : Option (List S72 × Int × Int) := if s.size ≤ 1000000 then dvLoop k s b [] 0 else none
theorem dvOne_mono (k : Nat) (s : ByteArray) (b : Bool) (l : List S72) (i : Int) : LeO (dvOne k s b l i) (dvOne (k + 1) s b l i) := by
  unfold dvOne
  refine LeO.bind (LeO.refl _) (fun _ => LeO.ite (LeO.refl _) (LeO.bind (asset_scanner_comment.mono _ _ _ _ _) (fun _ => LeO.refl _)))
theorem dvWord_mono : ∀ (k : Nat) (s : ByteArray) (b : Bool) (l : List S72) (e : Int), LeO (dvWord k s b l e) (dvWord (k + 1) s b l e)
  | 0, _, _, _, _ => LeO.none _
  | k + 1, s, b, l, e => by
    show LeO (if _ then _ else _) (if _ then _ else _)
    exact LeO.ite (LeO.bind (asset_scanner_begins.mono _ _ _ _ _) (fun _ => LeO.ite (LeO.refl _) (dvWord_mono k s b l _))) (LeO.refl _)
theorem dvLoop_mono : ∀ (k : Nat) (s : ByteArray) (b : Bool) (l : List S72) (i : Int), LeO (dvLoop k s b l i) (dvLoop (k + 1) s b l i)
  | 0, _, _, _, _ => LeO.none _
  | k + 1, s, b, l, i => by
    show LeO (if _ then _ else _) (if _ then _ else _)
    refine LeO.ite (LeO.ite ?_ (LeO.refl _)) (LeO.refl _)
    refine LeO.bind (LeO.refl _) (fun _ => LeO.ite (LeO.refl _) (LeO.bind (dvOne_mono _ _ _ _ _) (fun _ => ?_)))
    refine LeO.ite ?_ (LeO.ite ?_ ?_)
    · exact LeO.bind (asset_scanner_blank.mono _ _ _ _ _) (fun _ => LeO.ite (LeO.ite (dvLoop_mono k _ _ _ _) (LeO.refl _)) (LeO.refl _))
    · exact LeO.bind (asset_scanner_text.mono _ _ _ _ _) (fun _ => LeO.ite (LeO.refl _) (LeO.bind (asset_scanner_checked.mono _ _ _ _ _ _) (fun _ => LeO.ite (LeO.refl _) (LeO.ite (dvLoop_mono k _ _ _ _) (LeO.refl _)))))
    · exact LeO.bind (LeO.refl _) (fun _ => LeO.ite (dvLoop_mono k _ _ _ _) (LeO.bind (dvWord_mono _ _ _ _ _) (fun _ => LeO.ite (dvLoop_mono k _ _ _ _) (LeO.refl _))))
theorem asset_divided.mono : ∀ a0 a1 k, LeO (asset_divided.f k a0 a1) (asset_divided.f (k + 1) a0 a1) := by
  intro s b k
  unfold asset_divided.f
  exact LeO.ite (dvLoop_mono k s b _ _) (LeO.refl _)
set_option maxHeartbeats 8000000 in
set_option maxRecDepth 100000 in
theorem asset_divided.calls (k : Nat) (a0 : ByteArray) (a1 : Bool) (r1 : List S72) (r2 r3 : Int) (w : World) (h : asset_divided.f k a0 a1 = some (r1, r2, r3)) (hG : Gh.G w := by repeat' (first | with_reducible assumption | with_reducible apply Gh.G.drewN | with_reducible apply Gh.G.drew | with_reducible apply Gh.G.alloc | (with_reducible refine Gh.G.set ?_ (by assumption) (by assumption)) | exact Gh.G.aside (by assumption) (by assumption))) :
    Calls Try.prog 11 #[.string a0, .bool a1] w fun e w' => ∃ v1_ : Value, e = .returned (.tuple #[v1_, .int .i64 r2, .int .i64 r3]) ∧ Kd.R k72 72 w' w.heap.size (fun _ => True) v1_ r1 ∧ Below w.heap.size w w' := by
  unfold asset_divided.f at h
  split at h
  case isFalse => cases h
  rename_i hsz
  have H := Aside0.mk h
  have HZ := Aside0.mk hsz
  clear h hsz
  go_enter Try.func11, Try.ntmps11
  go_wp2_with fail
  go_loopg [8] k (fun kq v8 w' => ∃ (i : Int) (l : List S72) (v : Value), v8 = .int .i64 i ∧ Aside0 (dvLoop kq a0 a1 l i = some (r1, r2, r3)) ∧ Aside0 (kq ≤ k) ∧ Aside0 (DvAt w w.heap.size a0 a1 v v l w'))
  case atStart => exact ⟨0, [], .slice none 0 0, rfl, H, ⟨Nat.le_refl _⟩, ⟨⟨blk_new _ _, Nat.le_refl _, below_alloc (Below.refl _ _) _, Kd.R_nil _ _ _ _ _⟩⟩⟩
  case round =>
    clear H
    obtain ⟨i, l, v, rfl, HA, HK, HP⟩ := hrel
    cases gk with
    | zero => exact absurd HA.out (by simp [dvLoop])
    | succ k1 =>
      have H := HA.out
      clear HA
      unfold dvLoop at H
      by_cases c1 : i < (a0.size : Int)
      · rw [if_pos c1] at H
        by_cases c2 : 0 ≤ i ∧ l.length ≤ 1000000
        · rw [if_pos c2] at H
          obtain ⟨p, hl⟩ := c2
          have hx := bt_at a0 i
          have HQ := Aside0.mk (And.intro c1 (And.intro p hl))
          have hw1 : wrap64 (i + 1) = i + 1 := by have := HZ.out; unfold wrap64; omega
          have HW := Aside0.mk hw1
          clear hw1 hl
          replace p := eq_true p
          have q := eq_true c1
          have c1b := decide_eq_true c1
          clear c1
          obtain ⟨t1, A1, H⟩ := Option.bind_eq_some_iff.1 H
          have A1 := Aside0.mk A1
          go_wp2_with fail
          refine (asset_badByte.calls (bt a0 i) t1 _ A1.out).mono ?_
          rintro e w' ⟨rfl, ⟨nd, rfl⟩⟩
          have HP1 := Aside0.mk (HP.out.drewN nd)
          clear HP hx p q c1b
          generalize World.drewN _ nd = W1 at HP1 ⊢
          cases t1 with
          | true =>
            replace H : some (([] : List S72), i, (9 : Int)) = some (r1, r2, r3) := H
            simp only [Option.some.injEq, Prod.mk.injEq] at H
            obtain ⟨rfl, rfl, rfl⟩ := H
            go_wp2_with fail
            go_ret3
            exact ⟨_, rfl, Kd.R_nil _ _ _ _ _, HP1.out.B⟩
          | false =>
            rw [if_neg Bool.false_ne_true] at H
            obtain ⟨t3, A3, H⟩ := Option.bind_eq_some_iff.1 H
            unfold dvOne at A3
            obtain ⟨t2, A2, A3⟩ := Option.bind_eq_some_iff.1 A3
            have A2 := Aside0.mk A2
            go_wp2_with fail
            refine (asset_isBlank.calls (bt a0 i) t2 _ A2.out).mono ?_
            rintro e w' ⟨rfl, ⟨nd, rfl⟩⟩
            have HP2 := Aside0.mk (HP1.out.drewN nd)
            clear HP1
            generalize World.drewN _ nd = W2 at HP2 ⊢
            cases t2 with
            | true =>
              rw [if_pos rfl] at A3
              cases A3
              rw [if_pos rfl] at H
              obtain ⟨tb, A4, H⟩ := Option.bind_eq_some_iff.1 H
              have A4 := Aside0.mk A4
              go_wp2_with fail
              refine (blank_at k1 i tb HP2.out (Gh.G.step hG HP2.out.B) A4.out).mono ?_
              rintro e W3 ⟨rfl, h3⟩
              have HP3 := Aside0.mk h3
              clear h3 HP2
              obtain ⟨b1, b2, b3, b4, b5⟩ := tb
              dsimp only at H ⊢
              by_cases hb : b3 = 0
              · subst hb
                rw [if_pos rfl] at H
                split at H
                case isFalse => cases H
                rename_i hbb
                have HBB := Aside0.mk hbb
                clear hbb
                go_wp2_with fail
                refine (add_any w W3 w.heap.size a0 a1 v l 4 i b1 HP3.out HQ.out.2.1 (HBB.out.1) (HBB.out.2) HQ.out.2.2).mono ?_
                rintro e W9 ⟨rfl, v', h9⟩
                have HP9 := Aside0.mk h9
                have HH := Aside0.mk H
                clear h9 H HP3
                go_wp2_with fail
                go_roundg k1
                case measure => have := HK.out; omega
                case rel => exact ⟨b1, l ++ [addTok a0 4 i b1], v', (by first | rfl | (simp; done) | (simp [*]; done)), HH, ⟨by have := HK.out; omega⟩, HP9⟩
              · rw [if_neg hb] at H
                have hb1 : (b3 == 0) = false := beq_eq_false_iff_ne.2 hb
                have hb2 : (b3 != 0) = true := bne_iff_ne.2 hb
                clear hb
                simp only [Option.some.injEq, Prod.mk.injEq] at H
                obtain ⟨rfl, rfl, rfl⟩ := H
                go_wp2_with fail
                go_ret3
                exact ⟨_, rfl, Kd.R_nil _ _ _ _ _, HP3.out.B⟩
            | false =>
              rw [if_neg Bool.false_ne_true] at A3
              obtain ⟨tk, A6, A3⟩ := Option.bind_eq_some_iff.1 A3
              have A6 := Aside0.mk A6
              go_wp2_with fail
              refine (comment_at k1 i tk HP2.out (Gh.G.step hG HP2.out.B) A6.out).mono ?_
              rintro e W5 ⟨rfl, h5⟩
              have HP5 := Aside0.mk h5
              clear h5 HP2
              obtain ⟨m1, m2, m3⟩ := tk
              dsimp only at A3 ⊢
              by_cases hm : m1 ≥ 0
              · have hm1 : decide (0 ≤ m1) = true := decide_eq_true hm
                rw [decide_eq_true hm] at A3
                clear hm
                cases A3
                rw [if_pos rfl] at H
                obtain ⟨tb, A4, H⟩ := Option.bind_eq_some_iff.1 H
                have A4 := Aside0.mk A4
                go_wp2_with fail
                refine (blank_at k1 i tb HP5.out (Gh.G.step hG HP5.out.B) A4.out).mono ?_
                rintro e W3 ⟨rfl, h3⟩
                have HP3 := Aside0.mk h3
                clear h3 HP5
                obtain ⟨b1, b2, b3, b4, b5⟩ := tb
                dsimp only at H ⊢
                by_cases hb : b3 = 0
                · subst hb
                  rw [if_pos rfl] at H
                  split at H
                  case isFalse => cases H
                  rename_i hbb
                  have HBB := Aside0.mk hbb
                  clear hbb
                  go_wp2_with fail
                  refine (add_any w W3 w.heap.size a0 a1 v l 4 i b1 HP3.out HQ.out.2.1 (HBB.out.1) (HBB.out.2) HQ.out.2.2).mono ?_
                  rintro e W9 ⟨rfl, v', h9⟩
                  have HP9 := Aside0.mk h9
                  have HH := Aside0.mk H
                  clear h9 H HP3
                  go_wp2_with fail
                  go_roundg k1
                  case measure => have := HK.out; omega
                  case rel => exact ⟨b1, l ++ [addTok a0 4 i b1], v', (by first | rfl | (simp; done) | (simp [*]; done)), HH, ⟨by have := HK.out; omega⟩, HP9⟩
                · rw [if_neg hb] at H
                  have hb1 : (b3 == 0) = false := beq_eq_false_iff_ne.2 hb
                  have hb2 : (b3 != 0) = true := bne_iff_ne.2 hb
                  clear hb
                  simp only [Option.some.injEq, Prod.mk.injEq] at H
                  obtain ⟨rfl, rfl, rfl⟩ := H
                  go_wp2_with fail
                  go_ret3
                  exact ⟨_, rfl, Kd.R_nil _ _ _ _ _, HP3.out.B⟩
              · have hm1 : decide (0 ≤ m1) = false := decide_eq_false hm
                rw [decide_eq_false hm] at A3
                clear hm
                cases A3
                have HP2 := HP5
                clear HP5
                rw [if_neg Bool.false_ne_true] at H
                by_cases cq : bt a0 i = 34
                · have e1 : (bt a0 i == 34) = true := beq_iff_eq.2 cq
                  rw [if_pos (by rw [e1]; rfl)] at H
                  clear cq
                  obtain ⟨tt, A4, H⟩ := Option.bind_eq_some_iff.1 H
                  have A4 := Aside0.mk A4
                  go_wp2_with fail
                  refine (text_at k1 i tt HP2.out A4.out).mono ?_
                  rintro e W3 ⟨rfl, h3⟩
                  have HP3 := Aside0.mk h3
                  clear h3 HP2
                  obtain ⟨b1, b2, b3⟩ := tt
                  dsimp only at H ⊢
                  by_cases hb : b1 < 0
                  · rw [if_pos hb] at H
                    have hb1 : decide (b1 < 0) = true := decide_eq_true hb
                    clear hb
                    simp only [Option.some.injEq, Prod.mk.injEq] at H
                    obtain ⟨rfl, rfl, rfl⟩ := H
                    go_wp2_with fail
                    go_ret3
                    exact ⟨_, rfl, Kd.R_nil _ _ _ _ _, HP3.out.B⟩
                  · rw [if_neg hb] at H
                    have hb1 : decide (b1 < 0) = false := decide_eq_false hb
                    clear hb
                    obtain ⟨tc, A5, H⟩ := Option.bind_eq_some_iff.1 H
                    have A5 := Aside0.mk A5
                    go_wp2_with fail
                    refine (checked_at k1 i b1 tc HP3.out A5.out).mono ?_
                    rintro e W4 ⟨rfl, h4⟩
                    have HP4 := Aside0.mk h4
                    clear h4 HP3
                    obtain ⟨d1, d2, d3⟩ := tc
                    dsimp only at H ⊢
                    by_cases hd : d1 ≥ 0
                    · rw [if_pos hd] at H
                      have hd1 : decide (0 ≤ d1) = true := decide_eq_true hd
                      clear hd
                      simp only [Option.some.injEq, Prod.mk.injEq] at H
                      obtain ⟨rfl, rfl, rfl⟩ := H
                      go_wp2_with fail
                      go_ret3
                      exact ⟨_, rfl, Kd.R_nil _ _ _ _ _, HP4.out.B⟩
                    · rw [if_neg hd] at H
                      have hd1 : decide (0 ≤ d1) = false := decide_eq_false hd
                      clear hd
                      split at H
                      case isFalse => cases H
                      rename_i hbb
                      have HBB := Aside0.mk hbb
                      clear hbb
                      go_wp2_with fail
                      refine (add_any w W4 w.heap.size a0 a1 v l 2 i b1 HP4.out HQ.out.2.1 (HBB.out.1) (HBB.out.2) HQ.out.2.2).mono ?_
                      rintro e W9 ⟨rfl, v', h9⟩
                      have HP9 := Aside0.mk h9
                      have HH := Aside0.mk H
                      clear h9 H HP4
                      go_wp2_with fail
                      go_roundg k1
                      case measure => have := HK.out; omega
                      case rel => exact ⟨b1, l ++ [addTok a0 2 i b1], v', (by first | rfl | (simp; done) | (simp [*]; done)), HH, ⟨by have := HK.out; omega⟩, HP9⟩
                · have e1 : (bt a0 i == 34) = false := beq_eq_false_iff_ne.2 cq
                  by_cases cq2 : bt a0 i = 39
                  · have e2 : (bt a0 i == 39) = true := beq_iff_eq.2 cq2
                    rw [if_pos (by rw [e2, e1]; rfl)] at H
                    clear cq cq2
                    obtain ⟨tt, A4, H⟩ := Option.bind_eq_some_iff.1 H
                    have A4 := Aside0.mk A4
                    go_wp2_with fail
                    refine (text_at k1 i tt HP2.out A4.out).mono ?_
                    rintro e W3 ⟨rfl, h3⟩
                    have HP3 := Aside0.mk h3
                    clear h3 HP2
                    obtain ⟨b1, b2, b3⟩ := tt
                    dsimp only at H ⊢
                    by_cases hb : b1 < 0
                    · rw [if_pos hb] at H
                      have hb1 : decide (b1 < 0) = true := decide_eq_true hb
                      clear hb
                      simp only [Option.some.injEq, Prod.mk.injEq] at H
                      obtain ⟨rfl, rfl, rfl⟩ := H
                      go_wp2_with fail
                      go_ret3
                      exact ⟨_, rfl, Kd.R_nil _ _ _ _ _, HP3.out.B⟩
                    · rw [if_neg hb] at H
                      have hb1 : decide (b1 < 0) = false := decide_eq_false hb
                      clear hb
                      obtain ⟨tc, A5, H⟩ := Option.bind_eq_some_iff.1 H
                      have A5 := Aside0.mk A5
                      go_wp2_with fail
                      refine (checked_at k1 i b1 tc HP3.out A5.out).mono ?_
                      rintro e W4 ⟨rfl, h4⟩
                      have HP4 := Aside0.mk h4
                      clear h4 HP3
                      obtain ⟨d1, d2, d3⟩ := tc
                      dsimp only at H ⊢
                      by_cases hd : d1 ≥ 0
                      · rw [if_pos hd] at H
                        have hd1 : decide (0 ≤ d1) = true := decide_eq_true hd
                        clear hd
                        simp only [Option.some.injEq, Prod.mk.injEq] at H
                        obtain ⟨rfl, rfl, rfl⟩ := H
                        go_wp2_with fail
                        go_ret3
                        exact ⟨_, rfl, Kd.R_nil _ _ _ _ _, HP4.out.B⟩
                      · rw [if_neg hd] at H
                        have hd1 : decide (0 ≤ d1) = false := decide_eq_false hd
                        clear hd
                        split at H
                        case isFalse => cases H
                        rename_i hbb
                        have HBB := Aside0.mk hbb
                        clear hbb
                        go_wp2_with fail
                        refine (add_any w W4 w.heap.size a0 a1 v l 2 i b1 HP4.out HQ.out.2.1 (HBB.out.1) (HBB.out.2) HQ.out.2.2).mono ?_
                        rintro e W9 ⟨rfl, v', h9⟩
                        have HP9 := Aside0.mk h9
                        have HH := Aside0.mk H
                        clear h9 H HP4
                        go_wp2_with fail
                        go_roundg k1
                        case measure => have := HK.out; omega
                        case rel => exact ⟨b1, l ++ [addTok a0 2 i b1], v', (by first | rfl | (simp; done) | (simp [*]; done)), HH, ⟨by have := HK.out; omega⟩, HP9⟩
                  · have e2 : (bt a0 i == 39) = false := beq_eq_false_iff_ne.2 cq2
                    rw [if_neg (by rw [e2, e1]; decide)] at H
                    clear cq cq2
                    obtain ⟨tm, A4, H⟩ := Option.bind_eq_some_iff.1 H
                    have A4 := Aside0.mk A4
                    go_wp2_with fail
                    refine (isMark_at (bt a0 i) tm HP2.out A4.out).mono ?_
                    rintro e W3 ⟨rfl, h3⟩
                    have HP3 := Aside0.mk h3
                    clear h3 HP2
                    obtain ⟨b1, b2, b3⟩ := tm
                    dsimp only at H ⊢
                    cases b1 with
                    | true =>
                      rw [if_pos rfl] at H
                      have hw := HW.out
                      go_wp2_with fail
                      refine (add_any w W3 w.heap.size a0 a1 v l 3 i (i + 1) HP3.out HQ.out.2.1 (by omega) (by have := HQ.out.1; omega) HQ.out.2.2).mono ?_
                      rintro e W9 ⟨rfl, v', h9⟩
                      have HP9 := Aside0.mk h9
                      have HH := Aside0.mk H
                      clear h9 H HP3
                      go_wp2_with fail
                      go_roundg k1
                      case measure => have := HK.out; omega
                      case rel => exact ⟨(i + 1), l ++ [addTok a0 3 i (i + 1)], v', (by first | rfl | (simp; done) | (simp [*]; done)), HH, ⟨by have := HK.out; omega⟩, HP9⟩
                    | false =>
                      rw [if_neg Bool.false_ne_true] at H
                      obtain ⟨en, A5, H⟩ := Option.bind_eq_some_iff.1 H
                      have A5 := Aside0.mk A5
                      have hw := HW.out
                      split at H
                      case isFalse => cases H
                      rename_i hbb
                      have HBB := Aside0.mk hbb
                      have HH0 := Aside0.mk H
                      clear hbb H
                      go_wp2_with fail
                      go_loopg [15] k1 (fun kq v15 w' => ∃ (x : Int), v15 = .int .i64 x ∧ 1 ≤ x ∧ x ≤ (a0.size : Int) ∧ Aside0 (dvWord kq a0 a1 l x = some en) ∧ Aside0 (kq ≤ k1) ∧ Aside0 (DvAt w w.heap.size a0 a1 v v l w'))
                      case atStart => exact ⟨i + 1, (by first | rfl | (simp; done) | (simp [*]; done)), by have := HQ.out.2.1; omega, by have := HQ.out.1; omega, A5, ⟨Nat.le_refl _⟩, HP3⟩
                      case round =>
                        clear A5 HP3 hw
                        obtain ⟨x, rfl, hx1, hx2, HA5, HK5, HP3⟩ := hrel
                        cases gk with
                        | zero => exact absurd HA5.out (by simp [dvWord])
                        | succ k2 =>
                          have H5 := HA5.out
                          clear HA5
                          unfold dvWord at H5
                          by_cases hx : x < (a0.size : Int)
                          · rw [if_pos hx] at H5
                            have hxb := decide_eq_true hx
                            have hxw : wrap64 (x + 1) = x + 1 := by have := HZ.out; unfold wrap64; omega
                            have HXW := Aside0.mk hxw
                            have HX := Aside0.mk hx
                            clear hx hxw
                            obtain ⟨tg, A6, H5⟩ := Option.bind_eq_some_iff.1 H5
                            have A6 := Aside0.mk A6
                            go_wp2_with fail
                            refine (begins_at k2 x tg HP3.out (Gh.G.step hG HP3.out.B) A6.out).mono ?_
                            rintro e W4 ⟨rfl, h4⟩
                            have HP4 := Aside0.mk h4
                            clear h4 HP3
                            obtain ⟨g1, g2, g3⟩ := tg
                            dsimp only at H5 ⊢
                            cases g1 with
                            | true =>
                              rw [if_pos rfl] at H5
                              cases H5
                              have H := HH0.out
                              clear HH0
                              go_wp2_with fail
                              refine (add_any w W4 w.heap.size a0 a1 v l 1 i en HP4.out HQ.out.2.1 (HBB.out.1) (HBB.out.2) HQ.out.2.2).mono ?_
                              rintro e W9 ⟨rfl, v', h9⟩
                              have HP9 := Aside0.mk h9
                              have HH := Aside0.mk H
                              clear h9 H HP4
                              go_wp2_with fail
                              go_roundg k1
                              case measure => have := HK.out; omega
                              case rel => exact ⟨en, l ++ [addTok a0 1 i en], v', (by first | rfl | (simp; done) | (simp [*]; done)), HH, ⟨by have := HK.out; omega⟩, HP9⟩
                            | false =>
                              rw [if_neg Bool.false_ne_true] at H5
                              have HA5 := Aside0.mk H5
                              clear H5
                              have hxw := HXW.out
                              go_wp2_with fail
                              go_roundg k2
                              case measure => have := HK5.out; omega
                              case rel => exact ⟨x + 1, (by first | rfl | (simp; done) | (simp [*]; done)), by omega, by have := HX.out; omega, HA5, ⟨by have := HK5.out; omega⟩, HP4⟩
                          · rw [if_neg hx] at H5
                            have hxb := decide_eq_false hx
                            clear hx
                            cases H5
                            have H := HH0.out
                            clear HH0
                            go_wp2_with fail
                            refine (add_any w _ w.heap.size a0 a1 v l 1 i en HP3.out HQ.out.2.1 (HBB.out.1) (HBB.out.2) HQ.out.2.2).mono ?_
                            rintro e W9 ⟨rfl, v', h9⟩
                            have HP9 := Aside0.mk h9
                            have HH := Aside0.mk H
                            clear h9 H HP3
                            go_wp2_with fail
                            go_roundg k1
                            case measure => have := HK.out; omega
                            case rel => exact ⟨en, l ++ [addTok a0 1 i en], v', (by first | rfl | (simp; done) | (simp [*]; done)), HH, ⟨by have := HK.out; omega⟩, HP9⟩
        · rw [if_neg c2] at H; cases H
      · rw [if_neg c1] at H
        have c1b := decide_eq_false c1
        clear c1
        have hc2 := blk_cell HP.out.Q 2
        have hc2' : _ = some v := hc2
        clear hc2
        simp only [Option.some.injEq, Prod.mk.injEq] at H
        obtain ⟨rfl, rfl, rfl⟩ := H
        go_wp2_with fail
        go_ret3
        exact ⟨_, rfl, HP.out.V, HP.out.B⟩



/-! ### asset_joined: function 12 -/
def jdText (l : List S33) : List UInt8 := l.flatMap fun x => x.f1.data.toList
def jdFits (l : List S33) : Bool := decide (l.length ≤ 1000000) && l.all fun x => decide (x.f1.size ≤ 1000000)
def asset_joined.f (l0 : List S33) : Option ByteArray := if jdFits l0 = true then some ⟨(jdText l0).toArray⟩ else none
theorem jd_take {l : List S33} {j : Nat} (h : j < l.length) : l.take (j + 1) = l.take j ++ [rd_T33 l j] := by
  unfold rd_T33
  rw [Int.toNat_natCast, List.getD_eq_getElem?_getD, List.getElem?_eq_getElem h, Option.getD_some, List.take_succ_eq_append_getElem h]
theorem jd_mem {l : List S33} {j : Nat} (h : j < l.length) : rd_T33 l j ∈ l := by
  unfold rd_T33
  rw [Int.toNat_natCast, List.getD_eq_getElem?_getD, List.getElem?_eq_getElem h, Option.getD_some]
  exact List.getElem_mem _
theorem jd_text_succ {l : List S33} {j : Nat} (h : j < l.length) : jdText (l.take (j + 1)) = jdText (l.take j) ++ (rd_T33 l j).f1.data.toList := by
  unfold jdText; rw [jd_take h]; simp
theorem jd_len {l : List S33} (hl : ∀ x ∈ l, x.f1.size ≤ 1000000) : ∀ j, j ≤ l.length → (jdText (l.take j)).length ≤ 1000000 * j
  | 0, _ => by simp [jdText]
  | j + 1, h => by
    rw [jd_text_succ (by omega), List.length_append, ← Lib.size_eq]
    have := jd_len hl j (by omega)
    have h3 := hl _ (jd_mem (j := j) (by omega))
    omega
set_option maxHeartbeats 2000000 in
set_option maxRecDepth 100000 in
theorem asset_joined.calls (A0 : Option Addr) (c0 : Nat) (l0 : List S33) (r : ByteArray) (w : World) (hr0 : Kd.C k33 w A0 l0.length l0) (hc0 : l0.length ≤ c0) (h : asset_joined.f l0 = some r) :
    Calls Try.prog 12 #[.slice A0 l0.length c0] w fun e w' => e = .returned (.string r) ∧ Below w.heap.size w w' := by
  unfold asset_joined.f at h
  split at h
  case isFalse => cases h
  rename_i hf
  cases h
  unfold jdFits at hf
  rw [Bool.and_eq_true, decide_eq_true_eq, List.all_eq_true] at hf
  have hl : ∀ x ∈ l0, x.f1.size ≤ 1000000 := fun x hx => by simpa using hf.2 x hx
  have HL := Aside0.mk hl
  have HN := Aside0.mk hf.1
  have HR := Aside0.mk hr0
  clear hf hl hr0
  go_enter Try.func12, Try.ntmps12
  go_wp2_with fail
  go_loopw [8] (fun i wr => ∃ j : Nat, j ≤ l0.length ∧ i = .int .i64 j ∧ Aside0 (Bld.Is w.heap.size w.heap.size (jdText (l0.take j)) wr) ∧ Aside0 (Below w.heap.size w wr)) (fun i _ => l0.length - (intOf i).toNat)
  case atStart => exact ⟨0, Nat.zero_le _, rfl, ⟨by have := Bld.fresh w _ rfl; simpa [jdText] using this⟩, ⟨below_alloc (Below.refl _ _) _⟩⟩
  case round =>
    obtain ⟨j, hj, rfl, HI, HB⟩ := hrel
    have hkb : l0.length ≤ 1000000 := HN.out
    by_cases hlt : j < l0.length
    · obtain ⟨ad, rfl, hc1, hc2⟩ := at_T33 (Kd.C_below HR.out HB.out) j (by omega) (by omega)
      rw [Int.toNat_natCast] at hc1 hc2
      have hlen : (jdText (l0.take j)).length + (rd_T33 l0 j).f1.size ≤ 140737488355328 := by
        have h1 := jd_len HL.out j hj
        have h2 := HL.out _ (jd_mem hlt)
        omega
      have HLEN := Aside0.mk hlen
      have HTS := Aside0.mk (jd_text_succ hlt)
      clear hlen
      generalize rd_T33 l0 j = x at *
      go_wp2_with fail
      have hI1 := Bld.is_stays HI.out (Bld.stays_alloc [] wr (.cells #[.int .i64 x.f0, .string x.f1] 33)) (by simp) (by simp)
      refine (Bld.writeString w.heap.size w.heap.size (jdText (l0.take j)) x.f1 _ hI1 HLEN.out (below_size (below_alloc HB.out _))).mono ?_
      rintro e W1 ⟨rfl, hi, hk⟩
      have HI1 := Aside0.mk hi
      have HB1 := Aside0.mk ((below_alloc HB.out (.cells #[.int .i64 x.f0, .string x.f1] 33)).trans hk.1)
      clear hi hk hI1 HI HB
      go_wp2_with fail
      go_roundw
      case rel => exact ⟨j + 1, by omega, by go_num, by rw [HTS.out]; exact HI1, HB1⟩
      case measure => simp [intOf]; omega
    · obtain rfl : j = l0.length := by omega
      go_wp2_with fail
      refine (Bld.string w.heap.size w.heap.size (jdText (l0.take l0.length)) wr HI.out (below_size HB.out)).mono ?_
      rintro e W1 ⟨rfl, hi, hk⟩
      have HB1 := Aside0.mk (HB.out.trans hk.1)
      clear hi hk HI HB
      go_wp2_with fail
      go_ret
      exact ⟨rfl, HB1.out⟩


/-! ### strings_Contains: function 44 -/
def strings_Contains.f (a0 a1 : ByteArray) : Option Bool := if a0.size < 4294967281 then some (Lib.contains a0.data.toList a1.data.toList) else none
theorem strings_Contains.calls (a0 a1 : ByteArray) (r : Bool) (w : World) (h : strings_Contains.f a0 a1 = some r) (hG : Gh.G w := by repeat' (first | with_reducible assumption | with_reducible apply Gh.G.drewN | with_reducible apply Gh.G.drew | with_reducible apply Gh.G.alloc | (with_reducible refine Gh.G.set ?_ (by assumption) (by assumption)) | exact Gh.G.aside (by assumption) (by assumption))) :
    Calls Try.prog 44 #[.string a0, .string a1] w fun e w' => e = .returned (.bool r) ∧ Drawn0 w w' := by
  unfold strings_Contains.f at h
  split at h
  case isFalse => cases h
  rename_i hs
  obtain ⟨m, hm⟩ := hG.c
  cases h
  refine (Shelf.Try.strings_Contains a0 a1 m w hs hm).mono ?_
  rintro e w' ⟨rfl, rfl⟩
  exact ⟨rfl, Drawn0.refl _⟩

end Go.Proofs.Ytllpaepiiiedgaa.PAssetSame
