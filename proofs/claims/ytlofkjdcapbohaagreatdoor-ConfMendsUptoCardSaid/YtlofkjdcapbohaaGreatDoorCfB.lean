/- For the laws of conf: put, walked. No condition. -/
import Derived.Test.YtlofkjdcapbohaaGreatDoorCfA
namespace Go.Proofs.YtlofkjdcapbohaaGreatDoor.PConfKeeps
open Go.RowKit Go.Proofs.YtlofkjdcapbohaaGreatDoorW.PrintWords Go.Proofs.YtlofkjdcapbohaaGreatDoorW.PrintLast Go.Proofs.YtlofkjdcapbohaaGreatDoorW.PrintMore
set_option linter.unusedVariables false
set_option linter.unusedSimpArgs false
theorem info9' : (Tryz.prog.info? 9).map (fun i => (i.zero, i.size, i.bytes)) = some (some (.string ⟨#[]⟩), 1, 16) := by kernel_rfl
theorem info25' : (Tryz.prog.info? 25).map (fun i => (i.zero, i.size, i.bytes)) = some (some (.agg #[.int .i64 0, .bool false, .int .i64 0, .string ⟨#[]⟩, .slice none 0 0, .slice none 0 0]), 6, 88) := by kernel_rfl
/-- what the items' row may lead to, and where it may lie -/
def okI (w : World) (ok0 : Nat → Prop) (bo : Nat) (vk : Value) : Nat → Prop := fun k => ((ok0 k ∧ k < w.heap.size) ∨ bo < k) ∧ some k ≠ vk.ownBlock
structure PutAt (w : World) (ok0 : Nat → Prop) (bx br bo : Nat) (tc xc : Array Value) (ok ov : Value) (vk : Value) (ks : List ByteArray) (vi : Value) (is : List S25) (W : World) : Prop where
 T : W.heap[w.heap.size]? = some (.cells tc 25 (0, 0))
 X : W.heap[bx]? = some (.cells xc 25 (0, 0))
 R : W.heap[br]? = some (.cells #[.int .i64 0, .bool false, .int .i64 0, .string ⟨#[]⟩, .slice none 0 0, .slice none 0 0] 25 (0, 0))
 O : W.heap[bo]? = some (.cells #[.int .i64 6, .bool false, .int .i64 0, .string ⟨#[]⟩, ov, ok] 25 (0, 0))
 K : Kd.R Kd.string 9 W w.heap.size (fun k => bo < k) vk ks
 I : Kd.N k25 25 W w.heap.size (okI w ok0 bo vk) vi is
 B : Below w.heap.size w W
 h1 : w.heap.size < bx
 h2 : bx < br
 h3 : br < bo
section
variable {w W w1 : World} {ok0 : Nat → Prop} {bx br bo : Nat} {tc xc : Array Value} {ok ov vk vi v1 : Value} {ks ks1 : List ByteArray} {is is1 : List S25}
theorem PutAt.below (h : PutAt w ok0 bx br bo tc xc ok ov vk ks vi is W) (hb : Below W.heap.size W w1) : PutAt w ok0 bx br bo tc xc ok ov vk ks vi is w1 :=
 ⟨blk_below h.T hb, blk_below h.X hb, blk_below h.R hb, blk_below h.O hb, Kd.R_below h.K hb, Kd.N_below h.I hb, below_step h.B hb, h.h1, h.h2, h.h3⟩
theorem PutAt.appK (h : PutAt w ok0 bx br bo tc xc ok ov vk ks vi is W) (ho : Kd.R Kd.string 9 w1 w.heap.size (fun k => bo < k) v1 ks1) (hb : Below w.heap.size w w1) (hg : W.grownBy w1 vk.ownBlock) (hat : v1.ownBlock = vk.ownBlock ∨ ∃ b, v1.ownBlock = some b ∧ W.heap.size ≤ b) : PutAt w ok0 bx br bo tc xc ok ov v1 ks1 vi is w1 :=
 ⟨blk_grown h.T hg (Kd.R_ne h.K h.T (by decide)), blk_grown h.X hg (Kd.R_ne h.K h.X (by decide)), blk_grown h.R hg (Kd.R_ne h.K h.R (by decide)), blk_grown h.O hg (Kd.R_ne h.K h.O (by decide)), ho, Kd.N_after h.I hg hat, hb, h.h1, h.h2, h.h3⟩
theorem PutAt.appI (h : PutAt w ok0 bx br bo tc xc ok ov vk ks vi is W) (ho : Kd.N k25 25 w1 w.heap.size (okI w ok0 bo vk) v1 is1) (hb : Below w.heap.size w w1) (hg : W.grownBy w1 vi.ownBlock) : PutAt w ok0 bx br bo tc xc ok ov vk ks v1 is1 w1 := by
 have a1 := h.h1
 have a2 := h.h2
 have a3 := h.h3
 exact ⟨blk_grown h.T hg (Kd.N_away h.I (fun k hk => by rcases hk.1 with ⟨_, h_⟩ | h_ <;> omega)), blk_grown h.X hg (Kd.N_away h.I (fun k hk => by rcases hk.1 with ⟨_, h_⟩ | h_ <;> omega)), blk_grown h.R hg (Kd.N_away h.I (fun k hk => by rcases hk.1 with ⟨_, h_⟩ | h_ <;> omega)), blk_grown h.O hg (Kd.N_away h.I (fun k hk => by rcases hk.1 with ⟨_, h_⟩ | h_ <;> omega)), Kd.R_over' h.K (Kd.N_typed h.I) (by decide) hg, ho, hb, a1, a2, a3⟩
theorem PutAt.setK (h : PutAt w ok0 bx br bo tc xc ok ov vk ks vi is W) (u : Value) : PutAt w ok0 bx br bo tc xc u ov vk ks vi is (W.setCell ⟨bo, 5, none⟩ u) := by
 have a1 := h.h1
 have a2 := h.h2
 have a3 := h.h3
 exact ⟨blk_far h.T (by show _ ≠ bo; omega) _, blk_far h.X (by show _ ≠ bo; omega) _, blk_far h.R (by show _ ≠ bo; omega) _, blk_put h.O 5 u rfl, Kd.R_far h.K (fun k hk => by show k ≠ bo; omega) _, Kd.N_far h.I (fun k hk => by show k ≠ bo; rcases hk.1 with ⟨_, h_⟩ | h_ <;> omega) _, below_set h.B (by omega), a1, a2, a3⟩
theorem PutAt.setI (h : PutAt w ok0 bx br bo tc xc ok ov vk ks vi is W) (u : Value) : PutAt w ok0 bx br bo tc xc ok u vk ks vi is (W.setCell ⟨bo, 4, none⟩ u) := by
 have a1 := h.h1
 have a2 := h.h2
 have a3 := h.h3
 exact ⟨blk_far h.T (by show _ ≠ bo; omega) _, blk_far h.X (by show _ ≠ bo; omega) _, blk_far h.R (by show _ ≠ bo; omega) _, blk_put h.O 4 u rfl, Kd.R_far h.K (fun k hk => by show k ≠ bo; omega) _, Kd.N_far h.I (fun k hk => by show k ≠ bo; rcases hk.1 with ⟨_, h_⟩ | h_ <;> omega) _, below_set h.B (by omega), a1, a2, a3⟩
theorem PutAt.freshK (h : PutAt w ok0 bx br bo tc xc ok ov vk ks vi is W) : ∀ k, W.heap.size ≤ k → bo < k := fun k hk => Nat.lt_of_lt_of_le (blk_lt h.O) hk
theorem PutAt.freshI (h : PutAt w ok0 bx br bo tc xc ok ov vk ks vi is W) : ∀ k, W.heap.size ≤ k → okI w ok0 bo vk k := fun k hk => ⟨.inr (h.freshK k hk), fun he => by have := Kd.R_lt h.K k he.symm; omega⟩
theorem PutAt.oldI (h : PutAt w ok0 bx br bo tc xc ok ov vk ks vi is W) : ∀ k, (ok0 k ∧ k < w.heap.size) → okI w ok0 bo vk k ∧ some k ≠ vi.ownBlock := fun k hk => ⟨⟨.inl hk, fun he => by have := Kd.R_base h.K k he.symm; have := hk.2; omega⟩, fun he => by have := Kd.N_base h.I k he.symm; have := hk.2; omega⟩
theorem PutAt.res (h : PutAt w ok0 bx br bo tc xc ok ov vk ks vi is W) (v0 v1 v2 v3 v4 v5 : Value) :
  Kd.R Kd.string 9 ((((((W.setCell ⟨br, 0, none⟩ v0).setCell ⟨br, 1, none⟩ v1).setCell ⟨br, 2, none⟩ v2).setCell ⟨br, 3, none⟩ v3).setCell ⟨br, 4, none⟩ v4).setCell ⟨br, 5, none⟩ v5) w.heap.size (fun k => bo < k) vk ks ∧
  Kd.N k25 25 ((((((W.setCell ⟨br, 0, none⟩ v0).setCell ⟨br, 1, none⟩ v1).setCell ⟨br, 2, none⟩ v2).setCell ⟨br, 3, none⟩ v3).setCell ⟨br, 4, none⟩ v4).setCell ⟨br, 5, none⟩ v5) w.heap.size (okI w ok0 bo vk) vi is ∧
  Below w.heap.size w ((((((W.setCell ⟨br, 0, none⟩ v0).setCell ⟨br, 1, none⟩ v1).setCell ⟨br, 2, none⟩ v2).setCell ⟨br, 3, none⟩ v3).setCell ⟨br, 4, none⟩ v4).setCell ⟨br, 5, none⟩ v5) := by
 have a1 := h.h1
 have a2 := h.h2
 have a3 := h.h3
 have c1 : ∀ k, bo < k → k ≠ br := fun k hk => by omega
 have c2 : ∀ k, okI w ok0 bo vk k → k ≠ br := fun k hk => by rcases hk.1 with ⟨_, h_⟩ | h_ <;> omega
 exact ⟨Kd.R_far (Kd.R_far (Kd.R_far (Kd.R_far (Kd.R_far (Kd.R_far h.K c1 _) c1 _) c1 _) c1 _) c1 _) c1 _, Kd.N_far (Kd.N_far (Kd.N_far (Kd.N_far (Kd.N_far (Kd.N_far h.I c2 _) c2 _) c2 _) c2 _) c2 _) c2 _, put6_below h.B (by omega) _ _ _ _ _ _⟩
theorem PutAt.size (h : PutAt w ok0 bx br bo tc xc ok ov vk ks vi is W) : w.heap.size ≤ W.heap.size := below_size h.B
end
/-- what put answers -/
def cput (t : S25) (key : ByteArray) (x : S25) : Option S25 :=
 (conf_find.f t.f0 t.f1 t.f2 t.f3 t.f4 t.f5 key).bind fun b =>
  if 0 ≤ b.1 ∧ b.1 ≤ (t.f5.length : Int) ∧ b.1 ≤ (t.f4.length : Int) ∧ t.f4.length ≤ 1000000 ∧ t.f5.length ≤ 1000000 ∧ (b.2 = true → b.1 < (t.f5.length : Int) ∧ b.1 < (t.f4.length : Int)) then
   some ⟨6, false, 0, ⟨#[]⟩, t.f4.take b.1.toNat ++ [x] ++ t.f4.drop (if b.2 = true then b.1.toNat + 1 else b.1.toNat), t.f5.take b.1.toNat ++ [key] ++ t.f5.drop (if b.2 = true then b.1.toNat + 1 else b.1.toNat)⟩
  else none
set_option maxHeartbeats 4000000 in
set_option maxRecDepth 100000 in
theorem put_calls (t : S25) (A4 : Option Addr) (c4 : Nat) (A5 : Option Addr) (c5 : Nat) (key : ByteArray) (x : S25) (B4 : Option Addr) (d4 : Nat) (B5 : Option Addr) (d5 : Nat) (r : S25) (w : World) (ok0 : Nat → Prop) (ht : RdF w ok0 t A4 c4 A5 c5) (hx : RdF w ok0 x B4 d4 B5 d5) (h : cput t key x = some r) :
  Calls Tryz.prog 29 #[.agg #[.int .i64 t.f0, .bool t.f1, .int .i64 t.f2, .string t.f3, .slice A4 t.f4.length c4, .slice A5 t.f5.length c5], .string key, .agg #[.int .i64 x.f0, .bool x.f1, .int .i64 x.f2, .string x.f3, .slice B4 x.f4.length d4, .slice B5 x.f5.length d5]] w fun e w' => ∃ E4 e4 E5 e5, e = .returned (.agg #[.int .i64 r.f0, .bool r.f1, .int .i64 r.f2, .string r.f3, .slice E4 r.f4.length e4, .slice E5 r.f5.length e5]) ∧ RdF w' (fun k => ok0 k ∨ w.heap.size ≤ k) r E4 e4 E5 e5 ∧ Below w.heap.size w w' := by
 have hu25 := Tryz.underlying25
 have HT := Aside0.mk ht
 have HX := Aside0.mk hx
 clear ht hx
 unfold cput at h
 obtain ⟨⟨i, ok⟩, hf, h⟩ := Option.bind_eq_some_iff.1 h
 have HF := Aside0.mk hf
 clear hf
 split at h
 case isFalse => cases h
 rename_i hc
 dsimp only at hc
 obtain ⟨q0, q1, q2, q3, q4, q5⟩ := hc
 obtain ⟨n, rfl⟩ : ∃ n : Nat, i = (n : Int) := ⟨i.toNat, by omega⟩
 injection h with h
 have HE := Aside0.mk h
 clear h
 have lc4 : n ≤ c4 := by have := HT.out.2.1; omega
 have lc5 : n ≤ c5 := by have := HT.out.2.2.2; omega
 have ln4 : n ≤ t.f4.length := by omega
 have ln5 : n ≤ t.f5.length := by omega
 go_enter Tryz.func29, Tryz.ntmps29
 go_upto_region 1 with (fail)
 have HB := Aside0.mk (show Below w.heap.size w (((w.alloc (.cells #[.int .i64 t.f0, .bool t.f1, .int .i64 t.f2, .string t.f3, .slice A4 t.f4.length c4, .slice A5 t.f5.length c5] 25)).alloc (.cells #[.int .i64 x.f0, .bool x.f1, .int .i64 x.f2, .string x.f3, .slice B4 x.f4.length d4, .slice B5 x.f5.length d5] 25)).alloc (.cells #[.int .i64 0, .bool false, .int .i64 0, .string ⟨#[]⟩, .slice none 0 0, .slice none 0 0] 25)) from below_alloc (below_alloc (below_alloc (Below.refl _ _) _) _) _)
 have BKbt : (w.alloc (.cells #[.int .i64 t.f0, .bool t.f1, .int .i64 t.f2, .string t.f3, .slice A4 t.f4.length c4, .slice A5 t.f5.length c5] 25)).heap[w.heap.size]? = some (.cells #[.int .i64 t.f0, .bool t.f1, .int .i64 t.f2, .string t.f3, .slice A4 t.f4.length c4, .slice A5 t.f5.length c5] 25 (0, 0)) := by
  have h_ := blk_new w (.cells #[.int .i64 t.f0, .bool t.f1, .int .i64 t.f2, .string t.f3, .slice A4 t.f4.length c4, .slice A5 t.f5.length c5] 25)
  simpa using h_
 replace BKbt := blk_alloc BKbt (.cells #[.int .i64 x.f0, .bool x.f1, .int .i64 x.f2, .string x.f3, .slice B4 x.f4.length d4, .slice B5 x.f5.length d5] 25)
 replace BKbt := blk_alloc BKbt (.cells #[.int .i64 0, .bool false, .int .i64 0, .string ⟨#[]⟩, .slice none 0 0, .slice none 0 0] 25)
 replace BKbt := Aside0.mk BKbt
 have BKbx : ((w.alloc (.cells #[.int .i64 t.f0, .bool t.f1, .int .i64 t.f2, .string t.f3, .slice A4 t.f4.length c4, .slice A5 t.f5.length c5] 25)).alloc (.cells #[.int .i64 x.f0, .bool x.f1, .int .i64 x.f2, .string x.f3, .slice B4 x.f4.length d4, .slice B5 x.f5.length d5] 25)).heap[w.heap.size + 1]? = some (.cells #[.int .i64 x.f0, .bool x.f1, .int .i64 x.f2, .string x.f3, .slice B4 x.f4.length d4, .slice B5 x.f5.length d5] 25 (0, 0)) := by
  have h_ := blk_new (w.alloc (.cells #[.int .i64 t.f0, .bool t.f1, .int .i64 t.f2, .string t.f3, .slice A4 t.f4.length c4, .slice A5 t.f5.length c5] 25)) (.cells #[.int .i64 x.f0, .bool x.f1, .int .i64 x.f2, .string x.f3, .slice B4 x.f4.length d4, .slice B5 x.f5.length d5] 25)
  simpa using h_
 replace BKbx := blk_alloc BKbx (.cells #[.int .i64 0, .bool false, .int .i64 0, .string ⟨#[]⟩, .slice none 0 0, .slice none 0 0] 25)
 replace BKbx := Aside0.mk BKbx
 have BKbr : (((w.alloc (.cells #[.int .i64 t.f0, .bool t.f1, .int .i64 t.f2, .string t.f3, .slice A4 t.f4.length c4, .slice A5 t.f5.length c5] 25)).alloc (.cells #[.int .i64 x.f0, .bool x.f1, .int .i64 x.f2, .string x.f3, .slice B4 x.f4.length d4, .slice B5 x.f5.length d5] 25)).alloc (.cells #[.int .i64 0, .bool false, .int .i64 0, .string ⟨#[]⟩, .slice none 0 0, .slice none 0 0] 25)).heap[w.heap.size + 1 + 1]? = some (.cells #[.int .i64 0, .bool false, .int .i64 0, .string ⟨#[]⟩, .slice none 0 0, .slice none 0 0] 25 (0, 0)) := by
  have h_ := blk_new ((w.alloc (.cells #[.int .i64 t.f0, .bool t.f1, .int .i64 t.f2, .string t.f3, .slice A4 t.f4.length c4, .slice A5 t.f5.length c5] 25)).alloc (.cells #[.int .i64 x.f0, .bool x.f1, .int .i64 x.f2, .string x.f3, .slice B4 x.f4.length d4, .slice B5 x.f5.length d5] 25)) (.cells #[.int .i64 0, .bool false, .int .i64 0, .string ⟨#[]⟩, .slice none 0 0, .slice none 0 0] 25)
  simpa using h_
 replace BKbr := Aside0.mk BKbr
 have Gbt : Aside0 (w.heap.size ≤ w.heap.size) := ⟨by omega⟩
 have Gbx : Aside0 (w.heap.size ≤ w.heap.size + 1) := ⟨by omega⟩
 have Nbtbx : w.heap.size ≠ w.heap.size + 1 := by omega
 have Lbtbx : w.heap.size < w.heap.size + 1 := by omega
 have Nbxbt : w.heap.size + 1 ≠ w.heap.size := by omega
 have Gbr : Aside0 (w.heap.size ≤ w.heap.size + 1 + 1) := ⟨by omega⟩
 have Nbtbr : w.heap.size ≠ w.heap.size + 1 + 1 := by omega
 have Lbtbr : w.heap.size < w.heap.size + 1 + 1 := by omega
 have Nbrbt : w.heap.size + 1 + 1 ≠ w.heap.size := by omega
 have Nbxbr : w.heap.size + 1 ≠ w.heap.size + 1 + 1 := by omega
 have Lbxbr : w.heap.size + 1 < w.heap.size + 1 + 1 := by omega
 have Nbrbx : w.heap.size + 1 + 1 ≠ w.heap.size + 1 := by omega
 generalize (((w.alloc (.cells #[.int .i64 t.f0, .bool t.f1, .int .i64 t.f2, .string t.f3, .slice A4 t.f4.length c4, .slice A5 t.f5.length c5] 25)).alloc (.cells #[.int .i64 x.f0, .bool x.f1, .int .i64 x.f2, .string x.f3, .slice B4 x.f4.length d4, .slice B5 x.f5.length d5] 25)).alloc (.cells #[.int .i64 0, .bool false, .int .i64 0, .string ⟨#[]⟩, .slice none 0 0, .slice none 0 0] 25)) = W at HB BKbt BKbx BKbr ⊢
 generalize w.heap.size + 1 + 1 = br at BKbr Gbr Nbrbt Nbtbr Lbtbr Nbrbx Nbxbr Lbxbr ⊢
 generalize w.heap.size + 1 = bx at BKbx Gbx Nbxbt Nbtbx Lbtbx Nbxbr Nbrbx Lbxbr ⊢
 have yt_0 : W.cell? ⟨w.heap.size, 0, none⟩ = some (.int .i64 t.f0) := (blk_cell BKbt.out 0).trans rfl
 have yt_1 : W.cell? ⟨w.heap.size, 1, none⟩ = some (.bool t.f1) := (blk_cell BKbt.out 1).trans rfl
 have yt_2 : W.cell? ⟨w.heap.size, 2, none⟩ = some (.int .i64 t.f2) := (blk_cell BKbt.out 2).trans rfl
 have yt_3 : W.cell? ⟨w.heap.size, 3, none⟩ = some (.string t.f3) := (blk_cell BKbt.out 3).trans rfl
 have yt_4 : W.cell? ⟨w.heap.size, 4, none⟩ = some (.slice A4 t.f4.length c4) := (blk_cell BKbt.out 4).trans rfl
 have yt_5 : W.cell? ⟨w.heap.size, 5, none⟩ = some (.slice A5 t.f5.length c5) := (blk_cell BKbt.out 5).trans rfl
 go_upto_region 2 with (go_at_call 55; refine (conf_find.calls t.f0 t.f1 t.f2 t.f3 A4 c4 t.f4 A5 c5 t.f5 key n ok _ (Kd.C_below HT.out.now.1 HB.out) HT.out.2.1 (Kd.C_below HT.out.now.2.2.1 HB.out) HT.out.2.2.2 HF.out).mono ?_; rintro e W2 ⟨rfl, hb⟩; have HB2 := Aside0.mk (below_step HB.out hb); have BKt2 := Aside0.mk (blk_below BKbt.out hb); have BKx2 := Aside0.mk (blk_below BKbx.out hb); have BKr2 := Aside0.mk (blk_below BKbr.out hb); clear hb)
 clear yt_0 yt_1 yt_2 yt_3 yt_4 yt_5
 go_upto_region 3 with ((with_reducible refine gate_dst (N := 9) rfl ?_); refine box_event ?hg (N := 9) ?hd (cs := #[.int .i64 0, .bool false, .int .i64 0, .string ⟨#[]⟩, .slice none 0 0, .slice none 0 0]) (t := 25) ?hr ?_; (case hd => rfl); (case hg => rfl); (case hr => first | (go_simp; done) | (go_simp; rfl)); intro bo hbo W3 hbox hb; have BKo := Aside0.mk hbox; have HBO := Aside0.mk hbo; have BKt := Aside0.mk (blk_below BKt2.out hb); have BKx := Aside0.mk (blk_below BKx2.out hb); have BKr := Aside0.mk (blk_below BKr2.out hb); have HB3 := Aside0.mk (below_step HB2.out hb); have yo_0 : W3.cell? ⟨bo, 0, none⟩ = some (.int .i64 0) := (blk_cell BKo.out 0).trans rfl; have yo_1 : W3.cell? ⟨bo, 1, none⟩ = some (.bool false) := (blk_cell BKo.out 1).trans rfl; have yo_2 : W3.cell? ⟨bo, 2, none⟩ = some (.int .i64 0) := (blk_cell BKo.out 2).trans rfl; have yo_3 : W3.cell? ⟨bo, 3, none⟩ = some (.string ⟨#[]⟩) := (blk_cell BKo.out 3).trans rfl; have yo_4 : W3.cell? ⟨bo, 4, none⟩ = some (.slice none 0 0) := (blk_cell BKo.out 4).trans rfl; have yo_5 : W3.cell? ⟨bo, 5, none⟩ = some (.slice none 0 0) := (blk_cell BKo.out 5).trans rfl; have zo_0 := blk_frozen BKo.out 0; have zo_1 := blk_frozen BKo.out 1; have zo_2 := blk_frozen BKo.out 2; have zo_3 := blk_frozen BKo.out 3; have zo_4 := blk_frozen BKo.out 4; have zo_5 := blk_frozen BKo.out 5; clear hbo hbox hb)
 have Lo : br < bo := by rw [HBO.out]; exact blk_lt BKr2.out
 have hso : w.heap.size ≤ bo := by omega
 have HP := Aside0.mk (show PutAt w ok0 bx br bo #[.int .i64 t.f0, .bool t.f1, .int .i64 t.f2, .string t.f3, .slice A4 t.f4.length c4, .slice A5 t.f5.length c5] #[.int .i64 x.f0, .bool x.f1, .int .i64 x.f2, .string x.f3, .slice B4 x.f4.length d4, .slice B5 x.f5.length d5] (.slice none 0 0) (.slice none 0 0) (.slice none 0 0) [] (.slice none 0 0) [] ((((((W3.setCell ⟨bo, 0, none⟩ (.int .i64 6)).setCell ⟨bo, 1, none⟩ (.bool false)).setCell ⟨bo, 2, none⟩ (.int .i64 0)).setCell ⟨bo, 3, none⟩ (.string ⟨#[]⟩)).setCell ⟨bo, 4, none⟩ (.slice none 0 0)).setCell ⟨bo, 5, none⟩ (.slice none 0 0)) from ⟨put6_far BKt.out (by omega) _ _ _ _ _ _, put6_far BKx.out (by omega) _ _ _ _ _ _, put6_far BKr.out (by omega) _ _ _ _ _ _, put6 BKo.out _ _ _ _ _ _, Kd.R_nil _ _ _ _ _, Kd.N_nil _ _ _ _ _, put6_below HB3.out hso _ _ _ _ _ _, Lbtbx, Lbxbr, Lo⟩)
 clear yo_0 yo_1 yo_2 yo_3 yo_4 yo_5 zo_0 zo_1 zo_2 zo_3 zo_4 zo_5 BKo BKt BKx BKr BKt2 BKx2 BKr2 HB3 HB2 HBO BKbt BKbx BKbr HB Nbtbx Nbxbt Nbtbr Nbrbt Nbxbr Nbrbx Gbt Gbx Gbr Lbtbr
 generalize ((((((W3.setCell ⟨bo, 0, none⟩ (.int .i64 6)).setCell ⟨bo, 1, none⟩ (.bool false)).setCell ⟨bo, 2, none⟩ (.int .i64 0)).setCell ⟨bo, 3, none⟩ (.string ⟨#[]⟩)).setCell ⟨bo, 4, none⟩ (.slice none 0 0)).setCell ⟨bo, 5, none⟩ (.slice none 0 0)) = W4 at HP ⊢
 have n1 := Aside0.mk (HP.out.below (below_drew (Below.refl _ W4)))
 clear HP
 have HP := n1
 clear n1
 refine start_ (n := 9) (S := fun w' => w'.cell? ⟨bo, 5, none⟩ = some (.slice none 0 0) ∧ w'.cell? ⟨w.heap.size, 5, none⟩ = some (.slice A5 t.f5.length c5)) (ds := [8]) #[false, false, false, false, false, false, false, false, false] (by kernel_rfl) rfl rfl ⟨(blk_cell HP.out.O 5).trans rfl, (blk_cell HP.out.T 5).trans rfl⟩ (fun hHeld => ?_)
 generalize W4.drew = W5 at HP hHeld ⊢
 refine pure_ (i := 0) (N := some 17) (v := ?_) (a' := ?_) (ob 9 1) rfl rfl (by kernel_rfl) (fun _ _ _ h => h) (Or.inl ⟨by rfl, ?_⟩) ?_ ?_
 rotate_left
 ·intro w'
  go_simp
  with_reducible rfl
 rotate_left
 ·simp only [Act.put, List.setIfInBounds_toArray, List.set_cons_zero, List.set_cons_succ, i64_w, i32_w]
  rfl
 refine pure_ (i := 2) (N := some 19) (v := ?_) (a' := ?_) (ob 9 5) rfl rfl (by kernel_rfl) (fun _ _ _ h => h) (Or.inl ⟨by rfl, ?_⟩) ?_ ?_
 rotate_left
 ·intro w'
  go_simp
  with_reducible rfl
 rotate_left
 ·simp only [Act.put, List.setIfInBounds_toArray, List.set_cons_zero, List.set_cons_succ, i64_w, i32_w]
  rfl
 refine pure_ (i := 4) (N := some 21) (v := ?_) (a' := ?_) (ob 9 21) rfl rfl (by kernel_rfl) (fun _ _ _ h => h) (Or.inl ⟨by rfl, ?_⟩) ?_ ?_
 rotate_left
 ·intro w'
  go_simp
  with_reducible rfl
 rotate_left
 ·simp only [Act.put, List.setIfInBounds_toArray, List.set_cons_zero, List.set_cons_succ, i64_w, i32_w]
  rfl
 refine take_ (i := 1) (N := some 18) (v := ?_) (a' := ?_) (ob 9 23) rfl rfl (by kernel_rfl) (fun _ _ _ h => h) (Or.inl ⟨by rfl, ?_⟩) hHeld ?_ ?_
 rotate_left
 ·rintro w' ⟨s0, s1⟩
  go_simp
  with_reducible rfl
 rotate_left
 ·simp only [Act.put, List.setIfInBounds_toArray, List.set_cons_zero, List.set_cons_succ, i64_w, i32_w]
  rfl
 refine take_ (i := 3) (N := some 20) (v := ?_) (a' := ?_) (ob 9 31) rfl rfl (by kernel_rfl) (fun _ _ _ h => h) (Or.inl ⟨by rfl, ?_⟩) hHeld ?_ ?_
 rotate_left
 ·rintro w' ⟨s0, s1⟩
  go_simp
  with_reducible rfl
 rotate_left
 ·simp only [Act.put, List.setIfInBounds_toArray, List.set_cons_zero, List.set_cons_succ, i64_w, i32_w]
  rfl
 refine pure_ (i := 5) (N := some 22) (v := ?_) (a' := ?_) (ob 9 63) rfl rfl (by kernel_rfl) (fun _ _ _ h => h) (Or.inl ⟨by rfl, ?_⟩) ?_ ?_
 rotate_left
 ·intro w'
  go_simp
  with_reducible rfl
 rotate_left
 ·simp only [Act.put, List.setIfInBounds_toArray, List.set_cons_zero, List.set_cons_succ, i64_w, i32_w]
  rfl
 refine one_ (i := 6) (N := some 23) (ob 9 127) rfl rfl (by kernel_rfl) (by decide) (fun K hK => ?_)
 refine Kd.R_append_rows_step Kd.string (w0 := w) w.heap.size (by rfl) (.tmp 18) (.tmp 22) 23 9 (.string ⟨#[]⟩) 16 rfl Tryz.underlying23 info9' rfl (by decide) (by omega) (.slice none 0 0) [] (t.f5.take n) _ _ _ (fun k => bo < k) (fun _ => False) rfl rfl HP.out.K (by have h_ := (Kd.C_below (Kd.C_take HT.out.now.2.2.1 (by omega : n ≤ t.f5.length)) HP.out.B); rw [List.length_take, Nat.min_eq_left (by omega)] at h_; exact h_) (fun _ _ h => h) (fun _ h => h.elim) HP.out.freshK HP.out.B HP.out.size (by simp; omega) ?_
 intro v1 w5 ho hb hg hat
 have n1 := Aside0.mk (HP.out.appK ho hb hg hat)
 clear HP ho hb hg hat
 have HP := n1
 clear n1
 obtain ⟨Av1, cv1, rfl, _, _⟩ := Kd.R_reads HP.out.K
 rw [show ([] ++ t.f5.take n : List ByteArray).length = n from by rw [List.nil_append, List.length_take]; omega] at HP ⊢
 refine hK.out _ _ ⟨(blk_cell HP.out.O 5).trans rfl, (blk_cell HP.out.T 5).trans rfl⟩ (fun hHeld => ?_)
 clear hK K
 refine norm_ (a' := ?_) ?_ ?_
 rotate_left
 ·show Act.put _ (some 23) _ = _
  simp only [Act.put, List.setIfInBounds_toArray, List.set_cons_zero, List.set_cons_succ, i64_w, i32_w]
  rfl
 refine pure_ (i := 7) (N := some 24) (v := ?_) (a' := ?_) (ob 9 255) rfl rfl (by kernel_rfl) (fun _ _ _ h => h) (Or.inl ⟨by rfl, ?_⟩) ?_ ?_
 rotate_left
 ·intro w'
  go_simp
  with_reducible rfl
 rotate_left
 ·simp only [Act.put, List.setIfInBounds_toArray, List.set_cons_zero, List.set_cons_succ, i64_w, i32_w]
  rfl
 refine last_ (i := 8) (N := none) (ob 9 511) rfl rfl (by kernel_rfl) (by decide) (fun K hK => ?_)
 have y5 : w5.cell? ⟨bo, 5, none⟩ = some (.slice none 0 0) := (blk_cell HP.out.O 5).trans rfl
 have z5 := blk_frozen HP.out.O 5
 refine skip_ (w1 := ?_) (by rfl) rfl ?_ ?_
 rotate_left
 ·go_simp
  rfl
 clear y5 z5
 have n1 := Aside0.mk (HP.out.setK (.slice Av1 n cv1))
 clear HP
 have HP := n1
 clear n1
 generalize w5.setCell ⟨bo, 5, none⟩ (.slice Av1 n cv1) = W6 at HP ⊢
 refine hK.out _ _ ?_
 clear hK K
 refine done_ (by kernel_rfl) ?_
 generalize hk1 : ([] ++ t.f5.take n : List ByteArray) = k1 at HP ⊢
 have HK1 := Aside0.mk hk1
 clear hk1
 go_upto_region 4 with (fail)
 have n1 := Aside0.mk (HP.out.below (below_drew (Below.refl _ W6)))
 clear HP
 have HP := n1
 clear n1
 refine start_ (n := 9) (S := fun w' => w'.cell? ⟨bo, 4, none⟩ = some (.slice none 0 0) ∧ w'.cell? ⟨w.heap.size, 4, none⟩ = some (.slice A4 t.f4.length c4)) (ds := [8]) #[false, false, false, false, false, false, false, false, false] (by kernel_rfl) rfl rfl ⟨(blk_cell HP.out.O 4).trans rfl, (blk_cell HP.out.T 4).trans rfl⟩ (fun hHeld => ?_)
 generalize W6.drew = W7 at HP hHeld ⊢
 refine pure_ (i := 0) (N := some 25) (v := ?_) (a' := ?_) (ob 9 1) rfl rfl (by kernel_rfl) (fun _ _ _ h => h) (Or.inl ⟨by rfl, ?_⟩) ?_ ?_
 rotate_left
 ·intro w'
  go_simp
  with_reducible rfl
 rotate_left
 ·simp only [Act.put, List.setIfInBounds_toArray, List.set_cons_zero, List.set_cons_succ, i64_w, i32_w]
  rfl
 refine pure_ (i := 2) (N := some 27) (v := ?_) (a' := ?_) (ob 9 5) rfl rfl (by kernel_rfl) (fun _ _ _ h => h) (Or.inl ⟨by rfl, ?_⟩) ?_ ?_
 rotate_left
 ·intro w'
  go_simp
  with_reducible rfl
 rotate_left
 ·simp only [Act.put, List.setIfInBounds_toArray, List.set_cons_zero, List.set_cons_succ, i64_w, i32_w]
  rfl
 refine pure_ (i := 4) (N := some 29) (v := ?_) (a' := ?_) (ob 9 21) rfl rfl (by kernel_rfl) (fun _ _ _ h => h) (Or.inl ⟨by rfl, ?_⟩) ?_ ?_
 rotate_left
 ·intro w'
  go_simp
  with_reducible rfl
 rotate_left
 ·simp only [Act.put, List.setIfInBounds_toArray, List.set_cons_zero, List.set_cons_succ, i64_w, i32_w]
  rfl
 refine take_ (i := 1) (N := some 26) (v := ?_) (a' := ?_) (ob 9 23) rfl rfl (by kernel_rfl) (fun _ _ _ h => h) (Or.inl ⟨by rfl, ?_⟩) hHeld ?_ ?_
 rotate_left
 ·rintro w' ⟨s0, s1⟩
  go_simp
  with_reducible rfl
 rotate_left
 ·simp only [Act.put, List.setIfInBounds_toArray, List.set_cons_zero, List.set_cons_succ, i64_w, i32_w]
  rfl
 refine take_ (i := 3) (N := some 28) (v := ?_) (a' := ?_) (ob 9 31) rfl rfl (by kernel_rfl) (fun _ _ _ h => h) (Or.inl ⟨by rfl, ?_⟩) hHeld ?_ ?_
 rotate_left
 ·rintro w' ⟨s0, s1⟩
  go_simp
  with_reducible rfl
 rotate_left
 ·simp only [Act.put, List.setIfInBounds_toArray, List.set_cons_zero, List.set_cons_succ, i64_w, i32_w]
  rfl
 refine pure_ (i := 5) (N := some 30) (v := ?_) (a' := ?_) (ob 9 63) rfl rfl (by kernel_rfl) (fun _ _ _ h => h) (Or.inl ⟨by rfl, ?_⟩) ?_ ?_
 rotate_left
 ·intro w'
  go_simp
  with_reducible rfl
 rotate_left
 ·simp only [Act.put, List.setIfInBounds_toArray, List.set_cons_zero, List.set_cons_succ, i64_w, i32_w]
  rfl
 refine one_ (i := 6) (N := some 31) (ob 9 127) rfl rfl (by kernel_rfl) (by decide) (fun K hK => ?_)
 refine Kd.N_append_rows_step k25 (w0 := w) w.heap.size (by rfl) (.tmp 26) (.tmp 30) 22 25 (.agg #[.int .i64 0, .bool false, .int .i64 0, .string ⟨#[]⟩, .slice none 0 0, .slice none 0 0]) 88 rfl Tryz.underlying22 info25' rfl (by decide) (by omega) (.slice none 0 0) [] (t.f4.take n) _ _ _ (okI w ok0 bo (.slice Av1 n cv1)) (fun k => ok0 k ∧ k < w.heap.size) rfl rfl HP.out.I (by have h_ := Kd.F_take (Kd.F_below (HT.out.bound.1) HP.out.B) (show n ≤ t.f4.length by omega); rw [List.length_take, Nat.min_eq_left (by omega)] at h_; exact h_) HP.out.oldI HP.out.freshI HP.out.B HP.out.size (by simp; omega) ?_
 intro v2 w7 ho hb hg hat
 have n1 := Aside0.mk (HP.out.appI ho hb hg)
 clear HP ho hb hg hat
 have HP := n1
 clear n1
 obtain ⟨Av2, cv2, rfl⟩ := Kd.V_slice (Kd.N_V (base' := 0) HP.out.I)
 rw [show ([] ++ t.f4.take n : List S25).length = n from by rw [List.nil_append, List.length_take]; omega] at HP ⊢
 refine hK.out _ _ ⟨(blk_cell HP.out.O 4).trans rfl, (blk_cell HP.out.T 4).trans rfl⟩ (fun hHeld => ?_)
 clear hK K
 refine norm_ (a' := ?_) ?_ ?_
 rotate_left
 ·show Act.put _ (some 31) _ = _
  simp only [Act.put, List.setIfInBounds_toArray, List.set_cons_zero, List.set_cons_succ, i64_w, i32_w]
  rfl
 refine pure_ (i := 7) (N := some 32) (v := ?_) (a' := ?_) (ob 9 255) rfl rfl (by kernel_rfl) (fun _ _ _ h => h) (Or.inl ⟨by rfl, ?_⟩) ?_ ?_
 rotate_left
 ·intro w'
  go_simp
  with_reducible rfl
 rotate_left
 ·simp only [Act.put, List.setIfInBounds_toArray, List.set_cons_zero, List.set_cons_succ, i64_w, i32_w]
  rfl
 refine last_ (i := 8) (N := none) (ob 9 511) rfl rfl (by kernel_rfl) (by decide) (fun K hK => ?_)
 have y4 : w7.cell? ⟨bo, 4, none⟩ = some (.slice none 0 0) := (blk_cell HP.out.O 4).trans rfl
 have z4 := blk_frozen HP.out.O 4
 refine skip_ (w1 := ?_) (by rfl) rfl ?_ ?_
 rotate_left
 ·go_simp
  rfl
 clear y4 z4
 have n1 := Aside0.mk (HP.out.setI (.slice Av2 n cv2))
 clear HP
 have HP := n1
 clear n1
 generalize w7.setCell ⟨bo, 4, none⟩ (.slice Av2 n cv2) = W8 at HP ⊢
 refine hK.out _ _ ?_
 clear hK K
 refine done_ (by kernel_rfl) ?_
 generalize hi1 : ([] ++ t.f4.take n : List S25) = i1 at HP ⊢
 have HI1 := Aside0.mk hi1
 clear hi1
 have LK1 := Aside0.mk (show k1.length = n by rw [← HK1.out, List.nil_append, List.length_take]; omega)
 have LI1 := Aside0.mk (show i1.length = n by rw [← HI1.out, List.nil_append, List.length_take]; omega)
 go_upto_region 5 with (fail)
 have n1 := Aside0.mk (HP.out.below (below_drew (Below.refl _ W8)))
 clear HP
 have HP := n1
 clear n1
 refine start_ (n := 14) (S := fun w' => w'.cell? ⟨bo, 5, none⟩ = some (.slice Av1 n cv1) ∧ w'.cell? ⟨bo, 4, none⟩ = some (.slice Av2 n cv2) ∧ w'.cell? ⟨bx, 0, none⟩ = some (.int .i64 x.f0) ∧ w'.cell? ⟨bx, 1, none⟩ = some (.bool x.f1) ∧ w'.cell? ⟨bx, 2, none⟩ = some (.int .i64 x.f2) ∧ w'.cell? ⟨bx, 3, none⟩ = some (.string x.f3) ∧ w'.cell? ⟨bx, 4, none⟩ = some (.slice B4 x.f4.length d4) ∧ w'.cell? ⟨bx, 5, none⟩ = some (.slice B5 x.f5.length d5)) (ds := [11, 13]) #[false, false, false, false, false, false, false, false, false, false, false, false, false, false] (by kernel_rfl) rfl rfl ⟨(blk_cell HP.out.O 5).trans rfl, (blk_cell HP.out.O 4).trans rfl, (blk_cell HP.out.X 0).trans rfl, (blk_cell HP.out.X 1).trans rfl, (blk_cell HP.out.X 2).trans rfl, (blk_cell HP.out.X 3).trans rfl, (blk_cell HP.out.X 4).trans rfl, (blk_cell HP.out.X 5).trans rfl⟩ (fun hHeld => ?_)
 generalize W8.drew = W9 at HP hHeld ⊢
 refine pure_ (i := 0) (N := some 33) (v := ?_) (a' := ?_) (ob 14 1) rfl rfl (by kernel_rfl) (fun _ _ _ h => h) (Or.inl ⟨by rfl, ?_⟩) ?_ ?_
 rotate_left
 ·intro w'
  go_simp
  with_reducible rfl
 rotate_left
 ·simp only [Act.put, List.setIfInBounds_toArray, List.set_cons_zero, List.set_cons_succ, i64_w, i32_w]
  rfl
 refine pure_ (i := 2) (N := some 35) (v := ?_) (a' := ?_) (ob 14 5) rfl rfl (by kernel_rfl) (fun _ _ _ h => h) (Or.inl ⟨by rfl, ?_⟩) ?_ ?_
 rotate_left
 ·intro w'
  go_simp
  with_reducible rfl
 rotate_left
 ·simp only [Act.put, List.setIfInBounds_toArray, List.set_cons_zero, List.set_cons_succ, i64_w, i32_w]
  rfl
 refine pure_ (i := 5) (N := some 38) (v := ?_) (a' := ?_) (ob 14 37) rfl rfl (by kernel_rfl) (fun _ _ _ h => h) (Or.inl ⟨by rfl, ?_⟩) ?_ ?_
 rotate_left
 ·intro w'
  go_simp
  with_reducible rfl
 rotate_left
 ·simp only [Act.put, List.setIfInBounds_toArray, List.set_cons_zero, List.set_cons_succ, i64_w, i32_w]
  rfl
 refine take_ (i := 1) (N := some 34) (v := ?_) (a' := ?_) (ob 14 39) rfl rfl (by kernel_rfl) (fun _ _ _ h => h) (Or.inl ⟨by rfl, ?_⟩) hHeld ?_ ?_
 rotate_left
 ·rintro w' ⟨s0, s1, s2, s3, s4, s5, s6, s7⟩
  go_simp
  with_reducible rfl
 rotate_left
 ·simp only [Act.put, List.setIfInBounds_toArray, List.set_cons_zero, List.set_cons_succ, i64_w, i32_w]
  rfl
 refine take_ (i := 6) (N := some 39) (v := ?_) (a' := ?_) (ob 14 103) rfl rfl (by kernel_rfl) (fun _ _ _ h => h) (Or.inl ⟨by rfl, ?_⟩) hHeld ?_ ?_
 rotate_left
 ·rintro w' ⟨s0, s1, s2, s3, s4, s5, s6, s7⟩
  go_simp
  with_reducible rfl
 rotate_left
 ·simp only [Act.put, List.setIfInBounds_toArray, List.set_cons_zero, List.set_cons_succ, i64_w, i32_w]
  rfl
 refine take_ (i := 7) (N := some 40) (v := ?_) (a' := ?_) (ob 14 231) rfl rfl (by kernel_rfl) (fun _ _ _ h => h) (Or.inl ⟨by rfl, ?_⟩) hHeld ?_ ?_
 rotate_left
 ·rintro w' ⟨s0, s1, s2, s3, s4, s5, s6, s7⟩
  go_simp
  with_reducible rfl
 rotate_left
 ·simp only [Act.put, List.setIfInBounds_toArray, List.set_cons_zero, List.set_cons_succ, i64_w, i32_w]
  rfl
 refine join_ (σ := Value × Value × Value) 4 (ob 14 1535) (fun s => [(36, s.1), (37, s.2.1), (41, s.2.2), (43, .pointer (some ⟨bo, 5, none⟩))]) (fun s w' => PutAt w ok0 bx br bo #[.int .i64 t.f0, .bool t.f1, .int .i64 t.f2, .string t.f3, .slice A4 t.f4.length c4, .slice A5 t.f5.length c5] #[.int .i64 x.f0, .bool x.f1, .int .i64 x.f2, .string x.f3, .slice B4 x.f4.length d4, .slice B5 x.f5.length d5] (.slice Av1 n cv1) (.slice Av2 n cv2) s.2.1 (k1 ++ [key]) (.slice Av2 n cv2) i1 w' ∧ Kd.V k25 25 w' 0 (fun k => ((ok0 k ∧ k < w.heap.size ∨ bo < k) ∧ some k ≠ (.slice Av2 n cv2 : Value).ownBlock) ∧ some k ≠ (s.2.1 : Value).ownBlock) s.2.2 [x]) ?_ ?_
 rotate_left
 ·intro hCont
  refine two_ (i := 3) (j := 8) (Ni := some 36) (Nj := some 41) (ob 14 239) (ob 14 487) rfl rfl rfl rfl (by kernel_rfl) (by decide) (by decide) (fun K hK => ?_) (fun K hK => ?_)
  ·skip
   refine Kd.R_lit_step Kd.string _ 9 ?hg (N := 36) ?hd (xs := ([key] : List ByteArray)) (inner := [.string key]) (ok := fun _ => True) (okp := fun _ => True) ?hr ?hp (fun _ hk => hk) trivial (Below.refl _ _) (Nat.le_refl _) (by simp) ?_; (case hd => rfl); (case hg => rfl); (case hr => first | (go_simp; done) | (go_simp; rfl)); (case hp => exact (Reps.one (show Kd.M Kd.string _ _ _ key [.string key] from rfl) (Reps.none _ _)))
   intro u3 w9 ho hb hg_ hat_
   clear hg_ hat_
   obtain ⟨A3, c3, rfl, hc3, hC3⟩ := Kd.R_reads ho
   have HL3 := Aside0.mk hC3
   have n1 := Aside0.mk (HP.out.below hb)
   clear HP ho hb hC3 hc3
   have HP := n1
   clear n1
   refine hK.out _ _ ⟨(blk_cell HP.out.O 5).trans rfl, (blk_cell HP.out.O 4).trans rfl, (blk_cell HP.out.X 0).trans rfl, (blk_cell HP.out.X 1).trans rfl, (blk_cell HP.out.X 2).trans rfl, (blk_cell HP.out.X 3).trans rfl, (blk_cell HP.out.X 4).trans rfl, (blk_cell HP.out.X 5).trans rfl⟩ (fun hHeld => ?_)
   clear hK K
   refine norm_ (a' := ?_) ?_ ?_
   rotate_left
   ·show Act.put _ (some 36) _ = _
    simp only [Act.put, List.setIfInBounds_toArray, List.set_cons_zero, List.set_cons_succ, i64_w, i32_w]
    rfl
   refine two_ (i := 4) (j := 8) (Ni := some 37) (Nj := some 41) (ob 14 255) (ob 14 495) rfl rfl rfl rfl (by kernel_rfl) (by decide) (by decide) (fun K hK => ?_) (fun K hK => ?_)
   ·skip
    refine Kd.R_append_rows_step Kd.string (w0 := w) w.heap.size (by rfl) (.tmp 34) (.tmp 36) 23 9 (.string ⟨#[]⟩) 16 rfl Tryz.underlying23 info9' rfl (by decide) (by omega) (.slice Av1 n cv1) k1 [key] _ _ _ (fun k => bo < k) (fun _ => False) rfl rfl HP.out.K HL3.out (fun _ _ h => h) (fun _ h => h.elim) HP.out.freshK HP.out.B HP.out.size (by have := LK1.out; simp; omega) ?_
    intro u4 w11 ho hb hg hat
    have n1 := Aside0.mk (HP.out.appK ho hb hg hat)
    clear HP ho hb hg hat
    have HP := n1
    clear n1
    refine hK.out _ _ ⟨(blk_cell HP.out.O 5).trans rfl, (blk_cell HP.out.O 4).trans rfl, (blk_cell HP.out.X 0).trans rfl, (blk_cell HP.out.X 1).trans rfl, (blk_cell HP.out.X 2).trans rfl, (blk_cell HP.out.X 3).trans rfl, (blk_cell HP.out.X 4).trans rfl, (blk_cell HP.out.X 5).trans rfl⟩ (fun hHeld => ?_)
    clear hK K
    refine norm_ (a' := ?_) ?_ ?_
    rotate_left
    ·show Act.put _ (some 37) _ = _
     simp only [Act.put, List.setIfInBounds_toArray, List.set_cons_zero, List.set_cons_succ, i64_w, i32_w]
     rfl
    refine pure_ (i := 10) (N := some 43) (v := ?_) (a' := ?_) (ob 14 1279) rfl rfl (by kernel_rfl) (fun _ _ _ h => h) (Or.inl ⟨by rfl, ?_⟩) ?_ ?_
    rotate_left
    ·intro w'
     go_simp
     with_reducible rfl
    rotate_left
    ·simp only [Act.put, List.setIfInBounds_toArray, List.set_cons_zero, List.set_cons_succ, i64_w, i32_w]
     rfl
    refine one_ (i := 8) (N := some 41) (ob 14 1535) rfl rfl (by kernel_rfl) (by decide) (fun K hK => ?_)
    refine Kd.N_lit_step k25 _ 25 ?hg (N' := 41) ?hd (xs := ([x] : List S25)) (inner := [.int .i64 x.f0, .bool x.f1, .int .i64 x.f2, .string x.f3, .slice B4 x.f4.length d4, .slice B5 x.f5.length d5]) (ok := (fun k => ((ok0 k ∧ k < w.heap.size ∨ bo < k) ∧ some k ≠ (.slice Av2 n cv2 : Value).ownBlock) ∧ some k ≠ (u4 : Value).ownBlock)) (okp := fun k => ok0 k ∧ k < w.heap.size) ?hr ?hp (fun k hk => ⟨⟨(HP.out.oldI k hk).1.1, (HP.out.oldI k hk).2⟩, (HP.out.oldI k hk).1.2⟩) ⟨⟨(HP.out.freshI _ (Nat.le_refl _)).1, fun he => by have := Kd.N_lt HP.out.I _ he.symm; omega⟩, (HP.out.freshI _ (Nat.le_refl _)).2⟩ (Below.refl _ _) (Nat.le_refl _) (by simp) ?_; (case hd => rfl); (case hg => rfl); (case hr => first | (go_simp; done) | (go_simp; rfl)); (case hp => exact (Reps.c6 (show Kd.FK k25 _ _ x [.int .i64 x.f0, .bool x.f1, .int .i64 x.f2, .string x.f3, .slice B4 x.f4.length d4, .slice B5 x.f5.length d5] from k25_mkF _ _ x HX.out.2.1 (Kd.F_below (HX.out.bound.1) HP.out.B) HX.out.2.2.2 (Kd.F_below (HX.out.bound.2.2.1) HP.out.B)) (Reps.none _ _)))
    intro u8 w10 ho hb hg_ hat_
    clear hg_ hat_
    have HL8 := Aside0.mk (Kd.N_V (base' := 0) ho)
    have n1 := Aside0.mk (HP.out.below hb)
    clear HP ho hb
    have HP := n1
    clear n1
    refine hK.out _ _ ⟨(blk_cell HP.out.O 5).trans rfl, (blk_cell HP.out.O 4).trans rfl, (blk_cell HP.out.X 0).trans rfl, (blk_cell HP.out.X 1).trans rfl, (blk_cell HP.out.X 2).trans rfl, (blk_cell HP.out.X 3).trans rfl, (blk_cell HP.out.X 4).trans rfl, (blk_cell HP.out.X 5).trans rfl⟩ (fun hHeld => ?_)
    clear hK K
    refine norm_ (a' := ?_) ?_ ?_
    rotate_left
    ·show Act.put _ (some 41) _ = _
     simp only [Act.put, List.setIfInBounds_toArray, List.set_cons_zero, List.set_cons_succ, i64_w, i32_w]
     rfl
    exact norm_ (by first | (simp only [putAll, Act.put, List.setIfInBounds_toArray, List.set_cons_zero, List.set_cons_succ]; done) | (simp only [putAll, Act.put, List.setIfInBounds_toArray, List.set_cons_zero, List.set_cons_succ]; rfl)) (hCont (.slice A3 [key].length c3, u4, u8) _ ⟨HP.out, HL8.out⟩)
   ·skip
    refine Kd.N_lit_step k25 _ 25 ?hg (N' := 41) ?hd (xs := ([x] : List S25)) (inner := [.int .i64 x.f0, .bool x.f1, .int .i64 x.f2, .string x.f3, .slice B4 x.f4.length d4, .slice B5 x.f5.length d5]) (ok := (fun k => ((ok0 k ∧ k < w.heap.size ∨ bo < k) ∧ some k ≠ (.slice Av2 n cv2 : Value).ownBlock) ∧ some k ≠ ((.slice Av1 n cv1) : Value).ownBlock)) (okp := fun k => ok0 k ∧ k < w.heap.size) ?hr ?hp (fun k hk => ⟨⟨(HP.out.oldI k hk).1.1, (HP.out.oldI k hk).2⟩, (HP.out.oldI k hk).1.2⟩) ⟨⟨(HP.out.freshI _ (Nat.le_refl _)).1, fun he => by have := Kd.N_lt HP.out.I _ he.symm; omega⟩, (HP.out.freshI _ (Nat.le_refl _)).2⟩ (Below.refl _ _) (Nat.le_refl _) (by simp) ?_; (case hd => rfl); (case hg => rfl); (case hr => first | (go_simp; done) | (go_simp; rfl)); (case hp => exact (Reps.c6 (show Kd.FK k25 _ _ x [.int .i64 x.f0, .bool x.f1, .int .i64 x.f2, .string x.f3, .slice B4 x.f4.length d4, .slice B5 x.f5.length d5] from k25_mkF _ _ x HX.out.2.1 (Kd.F_below (HX.out.bound.1) HP.out.B) HX.out.2.2.2 (Kd.F_below (HX.out.bound.2.2.1) HP.out.B)) (Reps.none _ _)))
    intro u8 w10 ho hb hg_ hat_
    clear hg_ hat_
    have HL8 := Aside0.mk (Kd.N_V (base' := 0) ho)
    have n1 := Aside0.mk (HP.out.below hb)
    have n2 := Aside0.mk (Kd.C_below HL3.out hb)
    clear HL3
    have HL3 := n2
    clear n2
    clear HP ho hb
    have HP := n1
    clear n1
    refine hK.out _ _ ⟨(blk_cell HP.out.O 5).trans rfl, (blk_cell HP.out.O 4).trans rfl, (blk_cell HP.out.X 0).trans rfl, (blk_cell HP.out.X 1).trans rfl, (blk_cell HP.out.X 2).trans rfl, (blk_cell HP.out.X 3).trans rfl, (blk_cell HP.out.X 4).trans rfl, (blk_cell HP.out.X 5).trans rfl⟩ (fun hHeld => ?_)
    clear hK K
    refine norm_ (a' := ?_) ?_ ?_
    rotate_left
    ·show Act.put _ (some 41) _ = _
     simp only [Act.put, List.setIfInBounds_toArray, List.set_cons_zero, List.set_cons_succ, i64_w, i32_w]
     rfl
    refine one_ (i := 4) (N := some 37) (ob 14 511) rfl rfl (by kernel_rfl) (by decide) (fun K hK => ?_)
    refine Kd.R_append_rows_step Kd.string (w0 := w) w.heap.size (by rfl) (.tmp 34) (.tmp 36) 23 9 (.string ⟨#[]⟩) 16 rfl Tryz.underlying23 info9' rfl (by decide) (by omega) (.slice Av1 n cv1) k1 [key] _ _ _ (fun k => bo < k) (fun _ => False) rfl rfl HP.out.K HL3.out (fun _ _ h => h) (fun _ h => h.elim) HP.out.freshK HP.out.B HP.out.size (by have := LK1.out; simp; omega) ?_
    intro u4 w11 ho hb hg hat
    have n1 := Aside0.mk (HP.out.appK ho hb hg hat)
    have n2 := Aside0.mk (Kd.V_afterv HL8.out hg hat)
    clear HL8
    have HL8 := n2
    clear n2
    clear HP ho hb hg hat
    have HP := n1
    clear n1
    refine hK.out _ _ ⟨(blk_cell HP.out.O 5).trans rfl, (blk_cell HP.out.O 4).trans rfl, (blk_cell HP.out.X 0).trans rfl, (blk_cell HP.out.X 1).trans rfl, (blk_cell HP.out.X 2).trans rfl, (blk_cell HP.out.X 3).trans rfl, (blk_cell HP.out.X 4).trans rfl, (blk_cell HP.out.X 5).trans rfl⟩ (fun hHeld => ?_)
    clear hK K
    refine norm_ (a' := ?_) ?_ ?_
    rotate_left
    ·show Act.put _ (some 37) _ = _
     simp only [Act.put, List.setIfInBounds_toArray, List.set_cons_zero, List.set_cons_succ, i64_w, i32_w]
     rfl
    refine pure_ (i := 10) (N := some 43) (v := ?_) (a' := ?_) (ob 14 1535) rfl rfl (by kernel_rfl) (fun _ _ _ h => h) (Or.inl ⟨by rfl, ?_⟩) ?_ ?_
    rotate_left
    ·intro w'
     go_simp
     with_reducible rfl
    rotate_left
    ·simp only [Act.put, List.setIfInBounds_toArray, List.set_cons_zero, List.set_cons_succ, i64_w, i32_w]
     rfl
    exact norm_ (by first | (simp only [putAll, Act.put, List.setIfInBounds_toArray, List.set_cons_zero, List.set_cons_succ]; done) | (simp only [putAll, Act.put, List.setIfInBounds_toArray, List.set_cons_zero, List.set_cons_succ]; rfl)) (hCont (.slice A3 [key].length c3, u4, u8) _ ⟨HP.out, HL8.out⟩)
  ·skip
   refine Kd.N_lit_step k25 _ 25 ?hg (N' := 41) ?hd (xs := ([x] : List S25)) (inner := [.int .i64 x.f0, .bool x.f1, .int .i64 x.f2, .string x.f3, .slice B4 x.f4.length d4, .slice B5 x.f5.length d5]) (ok := (fun k => ((ok0 k ∧ k < w.heap.size ∨ bo < k) ∧ some k ≠ (.slice Av2 n cv2 : Value).ownBlock) ∧ some k ≠ ((.slice Av1 n cv1) : Value).ownBlock)) (okp := fun k => ok0 k ∧ k < w.heap.size) ?hr ?hp (fun k hk => ⟨⟨(HP.out.oldI k hk).1.1, (HP.out.oldI k hk).2⟩, (HP.out.oldI k hk).1.2⟩) ⟨⟨(HP.out.freshI _ (Nat.le_refl _)).1, fun he => by have := Kd.N_lt HP.out.I _ he.symm; omega⟩, (HP.out.freshI _ (Nat.le_refl _)).2⟩ (Below.refl _ _) (Nat.le_refl _) (by simp) ?_; (case hd => rfl); (case hg => rfl); (case hr => first | (go_simp; done) | (go_simp; rfl)); (case hp => exact (Reps.c6 (show Kd.FK k25 _ _ x [.int .i64 x.f0, .bool x.f1, .int .i64 x.f2, .string x.f3, .slice B4 x.f4.length d4, .slice B5 x.f5.length d5] from k25_mkF _ _ x HX.out.2.1 (Kd.F_below (HX.out.bound.1) HP.out.B) HX.out.2.2.2 (Kd.F_below (HX.out.bound.2.2.1) HP.out.B)) (Reps.none _ _)))
   intro u8 w10 ho hb hg_ hat_
   clear hg_ hat_
   have HL8 := Aside0.mk (Kd.N_V (base' := 0) ho)
   have n1 := Aside0.mk (HP.out.below hb)
   clear HP ho hb
   have HP := n1
   clear n1
   refine hK.out _ _ ⟨(blk_cell HP.out.O 5).trans rfl, (blk_cell HP.out.O 4).trans rfl, (blk_cell HP.out.X 0).trans rfl, (blk_cell HP.out.X 1).trans rfl, (blk_cell HP.out.X 2).trans rfl, (blk_cell HP.out.X 3).trans rfl, (blk_cell HP.out.X 4).trans rfl, (blk_cell HP.out.X 5).trans rfl⟩ (fun hHeld => ?_)
   clear hK K
   refine norm_ (a' := ?_) ?_ ?_
   rotate_left
   ·show Act.put _ (some 41) _ = _
    simp only [Act.put, List.setIfInBounds_toArray, List.set_cons_zero, List.set_cons_succ, i64_w, i32_w]
    rfl
   refine one_ (i := 3) (N := some 36) (ob 14 495) rfl rfl (by kernel_rfl) (by decide) (fun K hK => ?_)
   refine Kd.R_lit_step Kd.string _ 9 ?hg (N := 36) ?hd (xs := ([key] : List ByteArray)) (inner := [.string key]) (ok := fun _ => True) (okp := fun _ => True) ?hr ?hp (fun _ hk => hk) trivial (Below.refl _ _) (Nat.le_refl _) (by simp) ?_; (case hd => rfl); (case hg => rfl); (case hr => first | (go_simp; done) | (go_simp; rfl)); (case hp => exact (Reps.one (show Kd.M Kd.string _ _ _ key [.string key] from rfl) (Reps.none _ _)))
   intro u3 w9 ho hb hg_ hat_
   clear hg_ hat_
   obtain ⟨A3, c3, rfl, hc3, hC3⟩ := Kd.R_reads ho
   have HL3 := Aside0.mk hC3
   have n1 := Aside0.mk (HP.out.below hb)
   have n2 := Aside0.mk (Kd.V_below HL8.out hb)
   clear HL8
   have HL8 := n2
   clear n2
   clear HP ho hb hC3 hc3
   have HP := n1
   clear n1
   refine hK.out _ _ ⟨(blk_cell HP.out.O 5).trans rfl, (blk_cell HP.out.O 4).trans rfl, (blk_cell HP.out.X 0).trans rfl, (blk_cell HP.out.X 1).trans rfl, (blk_cell HP.out.X 2).trans rfl, (blk_cell HP.out.X 3).trans rfl, (blk_cell HP.out.X 4).trans rfl, (blk_cell HP.out.X 5).trans rfl⟩ (fun hHeld => ?_)
   clear hK K
   refine norm_ (a' := ?_) ?_ ?_
   rotate_left
   ·show Act.put _ (some 36) _ = _
    simp only [Act.put, List.setIfInBounds_toArray, List.set_cons_zero, List.set_cons_succ, i64_w, i32_w]
    rfl
   refine one_ (i := 4) (N := some 37) (ob 14 511) rfl rfl (by kernel_rfl) (by decide) (fun K hK => ?_)
   refine Kd.R_append_rows_step Kd.string (w0 := w) w.heap.size (by rfl) (.tmp 34) (.tmp 36) 23 9 (.string ⟨#[]⟩) 16 rfl Tryz.underlying23 info9' rfl (by decide) (by omega) (.slice Av1 n cv1) k1 [key] _ _ _ (fun k => bo < k) (fun _ => False) rfl rfl HP.out.K HL3.out (fun _ _ h => h) (fun _ h => h.elim) HP.out.freshK HP.out.B HP.out.size (by have := LK1.out; simp; omega) ?_
   intro u4 w11 ho hb hg hat
   have n1 := Aside0.mk (HP.out.appK ho hb hg hat)
   have n2 := Aside0.mk (Kd.V_afterv HL8.out hg hat)
   clear HL8
   have HL8 := n2
   clear n2
   clear HP ho hb hg hat
   have HP := n1
   clear n1
   refine hK.out _ _ ⟨(blk_cell HP.out.O 5).trans rfl, (blk_cell HP.out.O 4).trans rfl, (blk_cell HP.out.X 0).trans rfl, (blk_cell HP.out.X 1).trans rfl, (blk_cell HP.out.X 2).trans rfl, (blk_cell HP.out.X 3).trans rfl, (blk_cell HP.out.X 4).trans rfl, (blk_cell HP.out.X 5).trans rfl⟩ (fun hHeld => ?_)
   clear hK K
   refine norm_ (a' := ?_) ?_ ?_
   rotate_left
   ·show Act.put _ (some 37) _ = _
    simp only [Act.put, List.setIfInBounds_toArray, List.set_cons_zero, List.set_cons_succ, i64_w, i32_w]
    rfl
   refine pure_ (i := 10) (N := some 43) (v := ?_) (a' := ?_) (ob 14 1535) rfl rfl (by kernel_rfl) (fun _ _ _ h => h) (Or.inl ⟨by rfl, ?_⟩) ?_ ?_
   rotate_left
   ·intro w'
    go_simp
    with_reducible rfl
   rotate_left
   ·simp only [Act.put, List.setIfInBounds_toArray, List.set_cons_zero, List.set_cons_succ, i64_w, i32_w]
    rfl
   exact norm_ (by first | (simp only [putAll, Act.put, List.setIfInBounds_toArray, List.set_cons_zero, List.set_cons_succ]; done) | (simp only [putAll, Act.put, List.setIfInBounds_toArray, List.set_cons_zero, List.set_cons_succ]; rfl)) (hCont (.slice A3 [key].length c3, u4, u8) _ ⟨HP.out, HL8.out⟩)
 clear HP
 rintro ⟨u3, u4, u8⟩ W10 ⟨hp, hv⟩
 have HP := Aside0.mk hp
 have HL8 := Aside0.mk hv
 clear hp hv
 obtain ⟨Av4, cv4, rfl, _, _⟩ := Kd.R_reads HP.out.K
 obtain ⟨A8, c8, rfl⟩ := Kd.V_slice HL8.out
 rw [show (k1 ++ [key]).length = n + 1 from by rw [List.length_append, LK1.out]; rfl] at HP HL8 ⊢
 have hHeld : W10.cell? ⟨bo, 5, none⟩ = some (.slice Av1 n cv1) ∧ W10.cell? ⟨bo, 4, none⟩ = some (.slice Av2 n cv2) ∧ W10.cell? ⟨bx, 0, none⟩ = some (.int .i64 x.f0) ∧ W10.cell? ⟨bx, 1, none⟩ = some (.bool x.f1) ∧ W10.cell? ⟨bx, 2, none⟩ = some (.int .i64 x.f2) ∧ W10.cell? ⟨bx, 3, none⟩ = some (.string x.f3) ∧ W10.cell? ⟨bx, 4, none⟩ = some (.slice B4 x.f4.length d4) ∧ W10.cell? ⟨bx, 5, none⟩ = some (.slice B5 x.f5.length d5) := ⟨(blk_cell HP.out.O 5).trans rfl, (blk_cell HP.out.O 4).trans rfl, (blk_cell HP.out.X 0).trans rfl, (blk_cell HP.out.X 1).trans rfl, (blk_cell HP.out.X 2).trans rfl, (blk_cell HP.out.X 3).trans rfl, (blk_cell HP.out.X 4).trans rfl, (blk_cell HP.out.X 5).trans rfl⟩
 refine norm_ (a' := ?_) ?_ ?_
 rotate_left
 ·simp only [putAll, Act.put, List.setIfInBounds_toArray, List.set_cons_zero, List.set_cons_succ]
  rfl
 refine one_ (i := 9) (N := some 42) (ob 14 2047) rfl rfl (by kernel_rfl) (by decide) (fun K hK => ?_)
 refine Kd.N_append_rows_step k25 (w0 := w) w.heap.size (by rfl) (.tmp 39) (.tmp 41) 22 25 (.agg #[.int .i64 0, .bool false, .int .i64 0, .string ⟨#[]⟩, .slice none 0 0, .slice none 0 0]) 88 rfl Tryz.underlying22 info25' rfl (by decide) (by omega) (.slice Av2 n cv2) i1 [x] _ _ _ (okI w ok0 bo (.slice Av4 (n + 1) cv4)) _ rfl rfl HP.out.I (Kd.V_F HL8.out) (fun k hk => ⟨⟨hk.1.1, hk.2⟩, hk.1.2⟩) HP.out.freshI HP.out.B HP.out.size (by have := LI1.out; simp; omega) ?_
 intro v5 w12 ho hb hg hat
 have n1 := Aside0.mk (HP.out.appI ho hb hg)
 clear HP ho hb hg hat HL8
 have HP := n1
 clear n1
 obtain ⟨Av5, cv5, rfl⟩ := Kd.V_slice (Kd.N_V (base' := 0) HP.out.I)
 rw [show (i1 ++ [x]).length = n + 1 from by rw [List.length_append, LI1.out]; rfl] at HP ⊢
 refine hK.out _ _ ⟨(blk_cell HP.out.O 5).trans rfl, (blk_cell HP.out.O 4).trans rfl, (blk_cell HP.out.X 0).trans rfl, (blk_cell HP.out.X 1).trans rfl, (blk_cell HP.out.X 2).trans rfl, (blk_cell HP.out.X 3).trans rfl, (blk_cell HP.out.X 4).trans rfl, (blk_cell HP.out.X 5).trans rfl⟩ (fun hHeld => ?_)
 clear hK K
 refine norm_ (a' := ?_) ?_ ?_
 rotate_left
 ·show Act.put _ (some 42) _ = _
  simp only [Act.put, List.setIfInBounds_toArray, List.set_cons_zero, List.set_cons_succ, i64_w, i32_w]
  rfl
 refine last_ (i := 11) (N := none) (ob 14 4095) rfl rfl (by kernel_rfl) (by decide) (fun K hK => ?_)
 have y5 : w12.cell? ⟨bo, 5, none⟩ = some (.slice Av1 n cv1) := (blk_cell HP.out.O 5).trans rfl
 have z5 := blk_frozen HP.out.O 5
 refine skip_ (w1 := ?_) (by rfl) rfl ?_ ?_
 rotate_left
 ·go_simp
  rfl
 clear y5 z5
 have n1 := Aside0.mk (HP.out.setK (.slice Av4 (n + 1) cv4))
 clear HP
 have HP := n1
 clear n1
 generalize w12.setCell ⟨bo, 5, none⟩ (.slice Av4 (n + 1) cv4) = W13 at HP ⊢
 refine hK.out _ _ ?_
 clear hK K
 refine pure_ (i := 12) (N := some 44) (v := ?_) (a' := ?_) (ob 14 8191) rfl rfl (by kernel_rfl) (fun _ _ _ h => h) (Or.inl ⟨by rfl, ?_⟩) ?_ ?_
 rotate_left
 ·intro w'
  go_simp
  with_reducible rfl
 rotate_left
 ·simp only [Act.put, List.setIfInBounds_toArray, List.set_cons_zero, List.set_cons_succ, i64_w, i32_w]
  rfl
 refine last_ (i := 13) (N := none) (ob 14 16383) rfl rfl (by kernel_rfl) (by decide) (fun K hK => ?_)
 have y4 : W13.cell? ⟨bo, 4, none⟩ = some (.slice Av2 n cv2) := (blk_cell HP.out.O 4).trans rfl
 have z4 := blk_frozen HP.out.O 4
 refine skip_ (w1 := ?_) (by rfl) rfl ?_ ?_
 rotate_left
 ·go_simp
  rfl
 clear y4 z4
 have n1 := Aside0.mk (HP.out.setI (.slice Av5 (n + 1) cv5))
 clear HP
 have HP := n1
 clear n1
 generalize W13.setCell ⟨bo, 4, none⟩ (.slice Av5 (n + 1) cv5) = W14 at HP ⊢
 refine hK.out _ _ ?_
 clear hK K
 refine done_ (by kernel_rfl) ?_
 generalize hk2 : (k1 ++ [key] : List ByteArray) = k2 at HP ⊢
 generalize hi2 : (i1 ++ [x] : List S25) = i2 at HP ⊢
 have HK2 := Aside0.mk hk2
 have HI2 := Aside0.mk hi2
 have LK2 := Aside0.mk (show k2.length = n + 1 by rw [← hk2, List.length_append, LK1.out]; rfl)
 have LI2 := Aside0.mk (show i2.length = n + 1 by rw [← hi2, List.length_append, LI1.out]; rfl)
 clear hk2 hi2
 cases ok
 case false =>
  go_upto_region 8 with (fail)
  have n1 := Aside0.mk (HP.out.below (below_drew (Below.refl _ W14)))
  clear HP
  have HP := n1
  clear n1
  refine start_ (n := 9) (S := fun w' => w'.cell? ⟨bo, 5, none⟩ = some (.slice Av4 (n + 1) cv4) ∧ w'.cell? ⟨w.heap.size, 5, none⟩ = some (.slice A5 t.f5.length c5)) (ds := [8]) #[false, false, false, false, false, false, false, false, false] (by kernel_rfl) rfl rfl ⟨(blk_cell HP.out.O 5).trans rfl, (blk_cell HP.out.T 5).trans rfl⟩ (fun hHeld => ?_)
  generalize W14.drew = W15 at HP hHeld ⊢
  refine pure_ (i := 0) (N := some 48) (v := ?_) (a' := ?_) (ob 9 1) rfl rfl (by kernel_rfl) (fun _ _ _ h => h) (Or.inl ⟨by rfl, ?_⟩) ?_ ?_
  rotate_left
  ·intro w'
   go_simp
   with_reducible rfl
  rotate_left
  ·simp only [Act.put, List.setIfInBounds_toArray, List.set_cons_zero, List.set_cons_succ, i64_w, i32_w]
   rfl
  refine pure_ (i := 2) (N := some 50) (v := ?_) (a' := ?_) (ob 9 5) rfl rfl (by kernel_rfl) (fun _ _ _ h => h) (Or.inl ⟨by rfl, ?_⟩) ?_ ?_
  rotate_left
  ·intro w'
   go_simp
   with_reducible rfl
  rotate_left
  ·simp only [Act.put, List.setIfInBounds_toArray, List.set_cons_zero, List.set_cons_succ, i64_w, i32_w]
   rfl
  refine pure_ (i := 4) (N := some 52) (v := ?_) (a' := ?_) (ob 9 21) rfl rfl (by kernel_rfl) (fun _ _ _ h => h) (Or.inl ⟨by rfl, ?_⟩) ?_ ?_
  rotate_left
  ·intro w'
   go_simp
   with_reducible rfl
  rotate_left
  ·simp only [Act.put, List.setIfInBounds_toArray, List.set_cons_zero, List.set_cons_succ, i64_w, i32_w]
   rfl
  refine take_ (i := 1) (N := some 49) (v := ?_) (a' := ?_) (ob 9 23) rfl rfl (by kernel_rfl) (fun _ _ _ h => h) (Or.inl ⟨by rfl, ?_⟩) hHeld ?_ ?_
  rotate_left
  ·rintro w' ⟨s0, s1⟩
   go_simp
   with_reducible rfl
  rotate_left
  ·simp only [Act.put, List.setIfInBounds_toArray, List.set_cons_zero, List.set_cons_succ, i64_w, i32_w]
   rfl
  refine take_ (i := 3) (N := some 51) (v := ?_) (a' := ?_) (ob 9 31) rfl rfl (by kernel_rfl) (fun _ _ _ h => h) (Or.inl ⟨by rfl, ?_⟩) hHeld ?_ ?_
  rotate_left
  ·rintro w' ⟨s0, s1⟩
   go_simp
   with_reducible rfl
  rotate_left
  ·simp only [Act.put, List.setIfInBounds_toArray, List.set_cons_zero, List.set_cons_succ, i64_w, i32_w]
   rfl
  refine pure_ (i := 5) (N := some 53) (v := ?_) (a' := ?_) (ob 9 63) rfl rfl (by kernel_rfl) (fun _ _ _ h => h) (Or.inl ⟨by rfl, ?_⟩) ?_ ?_
  rotate_left
  ·intro w'
   go_simp
   with_reducible rfl
  rotate_left
  ·simp only [Act.put, List.setIfInBounds_toArray, List.set_cons_zero, List.set_cons_succ, i64_w, i32_w]
   rfl
  refine one_ (i := 6) (N := some 54) (ob 9 127) rfl rfl (by kernel_rfl) (by decide) (fun K hK => ?_)
  refine Kd.R_append_rows_step Kd.string (w0 := w) w.heap.size (by rfl) (.tmp 49) (.tmp 53) 23 9 (.string ⟨#[]⟩) 16 rfl Tryz.underlying23 info9' rfl (by decide) (by omega) (.slice Av4 (n + 1) cv4) k2 (t.f5.drop n) _ _ _ (fun k => bo < k) (fun _ => False) rfl rfl HP.out.K (by have h_ := Kd.C_drop (Kd.C_below HT.out.now.2.2.1 HP.out.B) (show n ≤ t.f5.length by omega) HT.out.2.2.2; rw [List.length_drop] at h_; simp only [show Kd.string.sz = 1 from rfl, Nat.mul_one] at h_; exact h_) (fun _ _ h => h) (fun _ h => h.elim) HP.out.freshK HP.out.B HP.out.size (by have := LK2.out; omega) ?_
  intro v6 w5 ho hb hg hat
  have n1 := Aside0.mk (HP.out.appK ho hb hg hat)
  clear HP ho hb hg hat
  have HP := n1
  clear n1
  obtain ⟨Av6, cv6, rfl, _, _⟩ := Kd.R_reads HP.out.K
  rw [show (k2 ++ t.f5.drop n : List ByteArray).length = (n + 1 + (t.f5.length - n)) from by rw [List.length_append, LK2.out, List.length_drop]] at HP ⊢
  refine hK.out _ _ ⟨(blk_cell HP.out.O 5).trans rfl, (blk_cell HP.out.T 5).trans rfl⟩ (fun hHeld => ?_)
  clear hK K
  refine norm_ (a' := ?_) ?_ ?_
  rotate_left
  ·show Act.put _ (some 54) _ = _
   simp only [Act.put, List.setIfInBounds_toArray, List.set_cons_zero, List.set_cons_succ, i64_w, i32_w]
   rfl
  refine pure_ (i := 7) (N := some 55) (v := ?_) (a' := ?_) (ob 9 255) rfl rfl (by kernel_rfl) (fun _ _ _ h => h) (Or.inl ⟨by rfl, ?_⟩) ?_ ?_
  rotate_left
  ·intro w'
   go_simp
   with_reducible rfl
  rotate_left
  ·simp only [Act.put, List.setIfInBounds_toArray, List.set_cons_zero, List.set_cons_succ, i64_w, i32_w]
   rfl
  refine last_ (i := 8) (N := none) (ob 9 511) rfl rfl (by kernel_rfl) (by decide) (fun K hK => ?_)
  have y5 : w5.cell? ⟨bo, 5, none⟩ = some (.slice Av4 (n + 1) cv4) := (blk_cell HP.out.O 5).trans rfl
  have z5 := blk_frozen HP.out.O 5
  refine skip_ (w1 := ?_) (by rfl) rfl ?_ ?_
  rotate_left
  ·go_simp
   rfl
  clear y5 z5
  have n1 := Aside0.mk (HP.out.setK (.slice Av6 (n + 1 + (t.f5.length - n)) cv6))
  clear HP
  have HP := n1
  clear n1
  generalize w5.setCell ⟨bo, 5, none⟩ (.slice Av6 (n + 1 + (t.f5.length - n)) cv6) = W16 at HP ⊢
  refine hK.out _ _ ?_
  clear hK K
  refine done_ (by kernel_rfl) ?_
  go_upto_region 9 with (fail)
  have n1 := Aside0.mk (HP.out.below (below_drew (Below.refl _ W16)))
  clear HP
  have HP := n1
  clear n1
  refine start_ (n := 9) (S := fun w' => w'.cell? ⟨bo, 4, none⟩ = some (.slice Av5 (n + 1) cv5) ∧ w'.cell? ⟨w.heap.size, 4, none⟩ = some (.slice A4 t.f4.length c4)) (ds := [8]) #[false, false, false, false, false, false, false, false, false] (by kernel_rfl) rfl rfl ⟨(blk_cell HP.out.O 4).trans rfl, (blk_cell HP.out.T 4).trans rfl⟩ (fun hHeld => ?_)
  generalize W16.drew = W17 at HP hHeld ⊢
  refine pure_ (i := 0) (N := some 56) (v := ?_) (a' := ?_) (ob 9 1) rfl rfl (by kernel_rfl) (fun _ _ _ h => h) (Or.inl ⟨by rfl, ?_⟩) ?_ ?_
  rotate_left
  ·intro w'
   go_simp
   with_reducible rfl
  rotate_left
  ·simp only [Act.put, List.setIfInBounds_toArray, List.set_cons_zero, List.set_cons_succ, i64_w, i32_w]
   rfl
  refine pure_ (i := 2) (N := some 58) (v := ?_) (a' := ?_) (ob 9 5) rfl rfl (by kernel_rfl) (fun _ _ _ h => h) (Or.inl ⟨by rfl, ?_⟩) ?_ ?_
  rotate_left
  ·intro w'
   go_simp
   with_reducible rfl
  rotate_left
  ·simp only [Act.put, List.setIfInBounds_toArray, List.set_cons_zero, List.set_cons_succ, i64_w, i32_w]
   rfl
  refine pure_ (i := 4) (N := some 60) (v := ?_) (a' := ?_) (ob 9 21) rfl rfl (by kernel_rfl) (fun _ _ _ h => h) (Or.inl ⟨by rfl, ?_⟩) ?_ ?_
  rotate_left
  ·intro w'
   go_simp
   with_reducible rfl
  rotate_left
  ·simp only [Act.put, List.setIfInBounds_toArray, List.set_cons_zero, List.set_cons_succ, i64_w, i32_w]
   rfl
  refine take_ (i := 1) (N := some 57) (v := ?_) (a' := ?_) (ob 9 23) rfl rfl (by kernel_rfl) (fun _ _ _ h => h) (Or.inl ⟨by rfl, ?_⟩) hHeld ?_ ?_
  rotate_left
  ·rintro w' ⟨s0, s1⟩
   go_simp
   with_reducible rfl
  rotate_left
  ·simp only [Act.put, List.setIfInBounds_toArray, List.set_cons_zero, List.set_cons_succ, i64_w, i32_w]
   rfl
  refine take_ (i := 3) (N := some 59) (v := ?_) (a' := ?_) (ob 9 31) rfl rfl (by kernel_rfl) (fun _ _ _ h => h) (Or.inl ⟨by rfl, ?_⟩) hHeld ?_ ?_
  rotate_left
  ·rintro w' ⟨s0, s1⟩
   go_simp
   with_reducible rfl
  rotate_left
  ·simp only [Act.put, List.setIfInBounds_toArray, List.set_cons_zero, List.set_cons_succ, i64_w, i32_w]
   rfl
  refine pure_ (i := 5) (N := some 61) (v := ?_) (a' := ?_) (ob 9 63) rfl rfl (by kernel_rfl) (fun _ _ _ h => h) (Or.inl ⟨by rfl, ?_⟩) ?_ ?_
  rotate_left
  ·intro w'
   go_simp
   with_reducible rfl
  rotate_left
  ·simp only [Act.put, List.setIfInBounds_toArray, List.set_cons_zero, List.set_cons_succ, i64_w, i32_w]
   rfl
  refine one_ (i := 6) (N := some 62) (ob 9 127) rfl rfl (by kernel_rfl) (by decide) (fun K hK => ?_)
  refine Kd.N_append_rows_step k25 (w0 := w) w.heap.size (by rfl) (.tmp 57) (.tmp 61) 22 25 (.agg #[.int .i64 0, .bool false, .int .i64 0, .string ⟨#[]⟩, .slice none 0 0, .slice none 0 0]) 88 rfl Tryz.underlying22 info25' rfl (by decide) (by omega) (.slice Av5 (n + 1) cv5) i2 (t.f4.drop n) _ _ _ (okI w ok0 bo (.slice Av6 (n + 1 + (t.f5.length - n)) cv6)) (fun k => ok0 k ∧ k < w.heap.size) rfl rfl HP.out.I (by have h_ := Kd.F_cut (Kd.F_below (HT.out.bound.1) HP.out.B) (show n ≤ t.f4.length by omega) HT.out.2.1; rw [List.length_drop] at h_; exact h_) HP.out.oldI HP.out.freshI HP.out.B HP.out.size (by have := LI2.out; rw [this]; omega) ?_
  intro v7 w7 ho hb hg hat
  have n1 := Aside0.mk (HP.out.appI ho hb hg)
  clear HP ho hb hg hat
  have HP := n1
  clear n1
  obtain ⟨Av7, cv7, rfl⟩ := Kd.V_slice (Kd.N_V (base' := 0) HP.out.I)
  rw [show (i2 ++ t.f4.drop n : List S25).length = (n + 1 + (t.f4.length - n)) from by rw [List.length_append, LI2.out, List.length_drop]] at HP ⊢
  refine hK.out _ _ ⟨(blk_cell HP.out.O 4).trans rfl, (blk_cell HP.out.T 4).trans rfl⟩ (fun hHeld => ?_)
  clear hK K
  refine norm_ (a' := ?_) ?_ ?_
  rotate_left
  ·show Act.put _ (some 62) _ = _
   simp only [Act.put, List.setIfInBounds_toArray, List.set_cons_zero, List.set_cons_succ, i64_w, i32_w]
   rfl
  refine pure_ (i := 7) (N := some 63) (v := ?_) (a' := ?_) (ob 9 255) rfl rfl (by kernel_rfl) (fun _ _ _ h => h) (Or.inl ⟨by rfl, ?_⟩) ?_ ?_
  rotate_left
  ·intro w'
   go_simp
   with_reducible rfl
  rotate_left
  ·simp only [Act.put, List.setIfInBounds_toArray, List.set_cons_zero, List.set_cons_succ, i64_w, i32_w]
   rfl
  refine last_ (i := 8) (N := none) (ob 9 511) rfl rfl (by kernel_rfl) (by decide) (fun K hK => ?_)
  have y4 : w7.cell? ⟨bo, 4, none⟩ = some (.slice Av5 (n + 1) cv5) := (blk_cell HP.out.O 4).trans rfl
  have z4 := blk_frozen HP.out.O 4
  refine skip_ (w1 := ?_) (by rfl) rfl ?_ ?_
  rotate_left
  ·go_simp
   rfl
  clear y4 z4
  have n1 := Aside0.mk (HP.out.setI (.slice Av7 (n + 1 + (t.f4.length - n)) cv7))
  clear HP
  have HP := n1
  clear n1
  generalize w7.setCell ⟨bo, 4, none⟩ (.slice Av7 (n + 1 + (t.f4.length - n)) cv7) = W18 at HP ⊢
  refine hK.out _ _ ?_
  clear hK K
  refine done_ (by kernel_rfl) ?_
  have BO := Aside0.mk HP.out.O
  have BR := Aside0.mk HP.out.R
  have yo_0 : W18.cell? ⟨bo, 0, none⟩ = some (.int .i64 6) := (blk_cell BO.out 0).trans rfl
  have yo_1 : W18.cell? ⟨bo, 1, none⟩ = some (.bool false) := (blk_cell BO.out 1).trans rfl
  have yo_2 : W18.cell? ⟨bo, 2, none⟩ = some (.int .i64 0) := (blk_cell BO.out 2).trans rfl
  have yo_3 : W18.cell? ⟨bo, 3, none⟩ = some (.string ⟨#[]⟩) := (blk_cell BO.out 3).trans rfl
  have yo_4 : W18.cell? ⟨bo, 4, none⟩ = some ((.slice Av7 (n + 1 + (t.f4.length - n)) cv7)) := (blk_cell BO.out 4).trans rfl
  have yo_5 : W18.cell? ⟨bo, 5, none⟩ = some ((.slice Av6 (n + 1 + (t.f5.length - n)) cv6)) := (blk_cell BO.out 5).trans rfl
  have yr_0 : W18.cell? ⟨br, 0, none⟩ = some (.int .i64 0) := (blk_cell BR.out 0).trans rfl
  have yr_1 : W18.cell? ⟨br, 1, none⟩ = some (.bool false) := (blk_cell BR.out 1).trans rfl
  have yr_2 : W18.cell? ⟨br, 2, none⟩ = some (.int .i64 0) := (blk_cell BR.out 2).trans rfl
  have yr_3 : W18.cell? ⟨br, 3, none⟩ = some (.string ⟨#[]⟩) := (blk_cell BR.out 3).trans rfl
  have yr_4 : W18.cell? ⟨br, 4, none⟩ = some (.slice none 0 0) := (blk_cell BR.out 4).trans rfl
  have yr_5 : W18.cell? ⟨br, 5, none⟩ = some (.slice none 0 0) := (blk_cell BR.out 5).trans rfl
  have zr_0 := blk_frozen BR.out 0
  have zr_1 := blk_frozen BR.out 1
  have zr_2 := blk_frozen BR.out 2
  have zr_3 := blk_frozen BR.out 3
  have zr_4 := blk_frozen BR.out 4
  have zr_5 := blk_frozen BR.out 5
  go_wp2_with fail
  all_goals
   refine bodyPost_ret (results_cell_row rfl _ _ br 25 #[.int .i64 6, .bool false, .int .i64 0, .string ⟨#[]⟩, (.slice Av7 (n + 1 + (t.f4.length - n)) cv7), (.slice Av6 (n + 1 + (t.f5.length - n)) cv6)] (0, 0) _ rfl (put6 BR.out _ _ _ _ _ _) Tryz.underlying25 rfl (by kernel_rfl)) rfl ?_
   have hE := HE.out
   rw [if_neg (by decide), Int.toNat_natCast, ← List.nil_append (t.f4.take n), HI1.out, HI2.out, ← List.nil_append (t.f5.take n), HK1.out, HK2.out] at hE
   subst hE
   have a5 := Kd.V_reads' (Kd.R_V (base' := 0) HP.out.K)
   have a4 := Kd.V_reads' (Kd.N_V (base' := 0) HP.out.I)
   obtain ⟨rK, rI, rB⟩ := HP.out.res (.int .i64 6) (.bool false) (.int .i64 0) (.string ⟨#[]⟩) ((.slice Av7 (n + 1 + (t.f4.length - n)) cv7)) ((.slice Av6 (n + 1 + (t.f5.length - n)) cv6))
   have b5 := Kd.V_reads' (Kd.R_V (base' := 0) rK)
   have b4 := Kd.V_reads' (Kd.N_V (base' := 0) rI)
   refine ⟨Av7, cv7, Av6, cv6, ?_, ⟨Kd.F_mono (Kd.V_at (Kd.N_V (base' := 0) rI)).2.2 (fun k hk => hk.1.elim (fun h_ => .inl h_.1) (fun h_ => .inr (by omega))), Nat.le_trans (Nat.le_of_eq b4.1.symm) b4.2.1, Kd.F_mono (Kd.V_at (Kd.R_V (base' := 0) rK)).2.2 (fun k hk => .inr (by omega)), Nat.le_trans (Nat.le_of_eq b5.1.symm) b5.2.1⟩, rB⟩
   show _ = Ending.returned (.agg #[.int .i64 6, .bool false, .int .i64 0, .string ⟨#[]⟩, .slice Av7 (i2 ++ t.f4.drop n).length cv7, .slice Av6 (k2 ++ t.f5.drop n).length cv6])
   rw [← b4.1, ← b5.1]
 case true =>
  have lm4 : n + 1 ≤ c4 := by have := HT.out.2.1; have := (q5 rfl).2; omega
  have lm5 : n + 1 ≤ c5 := by have := HT.out.2.2.2; have := (q5 rfl).1; omega
  have lmn4 : n + 1 ≤ t.f4.length := by have := (q5 rfl).2; omega
  have lmn5 : n + 1 ≤ t.f5.length := by have := (q5 rfl).1; omega
  have lz : (0 : Int) ≤ (n : Int) + 1 := by omega
  have lmi4 : (n : Int) + 1 ≤ (t.f4.length : Int) := by omega
  have lmi5 : (n : Int) + 1 ≤ (t.f5.length : Int) := by omega
  go_upto_region 8 with (fail)
  have n1 := Aside0.mk (HP.out.below (below_drew (Below.refl _ W14)))
  clear HP
  have HP := n1
  clear n1
  refine start_ (n := 9) (S := fun w' => w'.cell? ⟨bo, 5, none⟩ = some (.slice Av4 (n + 1) cv4) ∧ w'.cell? ⟨w.heap.size, 5, none⟩ = some (.slice A5 t.f5.length c5)) (ds := [8]) #[false, false, false, false, false, false, false, false, false] (by kernel_rfl) rfl rfl ⟨(blk_cell HP.out.O 5).trans rfl, (blk_cell HP.out.T 5).trans rfl⟩ (fun hHeld => ?_)
  generalize W14.drew = W15 at HP hHeld ⊢
  refine pure_ (i := 0) (N := some 48) (v := ?_) (a' := ?_) (ob 9 1) rfl rfl (by kernel_rfl) (fun _ _ _ h => h) (Or.inl ⟨by rfl, ?_⟩) ?_ ?_
  rotate_left
  ·intro w'
   go_simp
   with_reducible rfl
  rotate_left
  ·simp only [Act.put, List.setIfInBounds_toArray, List.set_cons_zero, List.set_cons_succ, i64_w, i32_w]
   rfl
  refine pure_ (i := 2) (N := some 50) (v := ?_) (a' := ?_) (ob 9 5) rfl rfl (by kernel_rfl) (fun _ _ _ h => h) (Or.inl ⟨by rfl, ?_⟩) ?_ ?_
  rotate_left
  ·intro w'
   go_simp
   with_reducible rfl
  rotate_left
  ·simp only [Act.put, List.setIfInBounds_toArray, List.set_cons_zero, List.set_cons_succ, i64_w, i32_w]
   rfl
  refine pure_ (i := 4) (N := some 52) (v := ?_) (a' := ?_) (ob 9 21) rfl rfl (by kernel_rfl) (fun _ _ _ h => h) (Or.inl ⟨by rfl, ?_⟩) ?_ ?_
  rotate_left
  ·intro w'
   go_simp
   with_reducible rfl
  rotate_left
  ·simp only [Act.put, List.setIfInBounds_toArray, List.set_cons_zero, List.set_cons_succ, i64_w, i32_w]
   rfl
  refine take_ (i := 1) (N := some 49) (v := ?_) (a' := ?_) (ob 9 23) rfl rfl (by kernel_rfl) (fun _ _ _ h => h) (Or.inl ⟨by rfl, ?_⟩) hHeld ?_ ?_
  rotate_left
  ·rintro w' ⟨s0, s1⟩
   go_simp
   with_reducible rfl
  rotate_left
  ·simp only [Act.put, List.setIfInBounds_toArray, List.set_cons_zero, List.set_cons_succ, i64_w, i32_w]
   rfl
  refine take_ (i := 3) (N := some 51) (v := ?_) (a' := ?_) (ob 9 31) rfl rfl (by kernel_rfl) (fun _ _ _ h => h) (Or.inl ⟨by rfl, ?_⟩) hHeld ?_ ?_
  rotate_left
  ·rintro w' ⟨s0, s1⟩
   go_simp
   with_reducible rfl
  rotate_left
  ·simp only [Act.put, List.setIfInBounds_toArray, List.set_cons_zero, List.set_cons_succ, i64_w, i32_w]
   rfl
  refine pure_ (i := 5) (N := some 53) (v := ?_) (a' := ?_) (ob 9 63) rfl rfl (by kernel_rfl) (fun _ _ _ h => h) (Or.inl ⟨by rfl, ?_⟩) ?_ ?_
  rotate_left
  ·intro w'
   go_simp
   with_reducible rfl
  rotate_left
  ·simp only [Act.put, List.setIfInBounds_toArray, List.set_cons_zero, List.set_cons_succ, i64_w, i32_w]
   rfl
  refine one_ (i := 6) (N := some 54) (ob 9 127) rfl rfl (by kernel_rfl) (by decide) (fun K hK => ?_)
  refine Kd.R_append_rows_step Kd.string (w0 := w) w.heap.size (by rfl) (.tmp 49) (.tmp 53) 23 9 (.string ⟨#[]⟩) 16 rfl Tryz.underlying23 info9' rfl (by decide) (by omega) (.slice Av4 (n + 1) cv4) k2 (t.f5.drop (n + 1)) _ _ _ (fun k => bo < k) (fun _ => False) rfl rfl HP.out.K (by have h_ := Kd.C_drop (Kd.C_below HT.out.now.2.2.1 HP.out.B) (show (n + 1) ≤ t.f5.length by omega) HT.out.2.2.2; rw [List.length_drop] at h_; simp only [show Kd.string.sz = 1 from rfl, Nat.mul_one] at h_; exact h_) (fun _ _ h => h) (fun _ h => h.elim) HP.out.freshK HP.out.B HP.out.size (by have := LK2.out; omega) ?_
  intro v6 w5 ho hb hg hat
  have n1 := Aside0.mk (HP.out.appK ho hb hg hat)
  clear HP ho hb hg hat
  have HP := n1
  clear n1
  obtain ⟨Av6, cv6, rfl, _, _⟩ := Kd.R_reads HP.out.K
  rw [show (k2 ++ t.f5.drop (n + 1) : List ByteArray).length = t.f5.length from by rw [List.length_append, LK2.out, List.length_drop]; omega] at HP ⊢
  refine hK.out _ _ ⟨(blk_cell HP.out.O 5).trans rfl, (blk_cell HP.out.T 5).trans rfl⟩ (fun hHeld => ?_)
  clear hK K
  refine norm_ (a' := ?_) ?_ ?_
  rotate_left
  ·show Act.put _ (some 54) _ = _
   simp only [Act.put, List.setIfInBounds_toArray, List.set_cons_zero, List.set_cons_succ, i64_w, i32_w]
   rfl
  refine pure_ (i := 7) (N := some 55) (v := ?_) (a' := ?_) (ob 9 255) rfl rfl (by kernel_rfl) (fun _ _ _ h => h) (Or.inl ⟨by rfl, ?_⟩) ?_ ?_
  rotate_left
  ·intro w'
   go_simp
   with_reducible rfl
  rotate_left
  ·simp only [Act.put, List.setIfInBounds_toArray, List.set_cons_zero, List.set_cons_succ, i64_w, i32_w]
   rfl
  refine last_ (i := 8) (N := none) (ob 9 511) rfl rfl (by kernel_rfl) (by decide) (fun K hK => ?_)
  have y5 : w5.cell? ⟨bo, 5, none⟩ = some (.slice Av4 (n + 1) cv4) := (blk_cell HP.out.O 5).trans rfl
  have z5 := blk_frozen HP.out.O 5
  refine skip_ (w1 := ?_) (by rfl) rfl ?_ ?_
  rotate_left
  ·go_simp
   rfl
  clear y5 z5
  have n1 := Aside0.mk (HP.out.setK (.slice Av6 t.f5.length cv6))
  clear HP
  have HP := n1
  clear n1
  generalize w5.setCell ⟨bo, 5, none⟩ (.slice Av6 t.f5.length cv6) = W16 at HP ⊢
  refine hK.out _ _ ?_
  clear hK K
  refine done_ (by kernel_rfl) ?_
  go_upto_region 9 with (fail)
  have n1 := Aside0.mk (HP.out.below (below_drew (Below.refl _ W16)))
  clear HP
  have HP := n1
  clear n1
  refine start_ (n := 9) (S := fun w' => w'.cell? ⟨bo, 4, none⟩ = some (.slice Av5 (n + 1) cv5) ∧ w'.cell? ⟨w.heap.size, 4, none⟩ = some (.slice A4 t.f4.length c4)) (ds := [8]) #[false, false, false, false, false, false, false, false, false] (by kernel_rfl) rfl rfl ⟨(blk_cell HP.out.O 4).trans rfl, (blk_cell HP.out.T 4).trans rfl⟩ (fun hHeld => ?_)
  generalize W16.drew = W17 at HP hHeld ⊢
  refine pure_ (i := 0) (N := some 56) (v := ?_) (a' := ?_) (ob 9 1) rfl rfl (by kernel_rfl) (fun _ _ _ h => h) (Or.inl ⟨by rfl, ?_⟩) ?_ ?_
  rotate_left
  ·intro w'
   go_simp
   with_reducible rfl
  rotate_left
  ·simp only [Act.put, List.setIfInBounds_toArray, List.set_cons_zero, List.set_cons_succ, i64_w, i32_w]
   rfl
  refine pure_ (i := 2) (N := some 58) (v := ?_) (a' := ?_) (ob 9 5) rfl rfl (by kernel_rfl) (fun _ _ _ h => h) (Or.inl ⟨by rfl, ?_⟩) ?_ ?_
  rotate_left
  ·intro w'
   go_simp
   with_reducible rfl
  rotate_left
  ·simp only [Act.put, List.setIfInBounds_toArray, List.set_cons_zero, List.set_cons_succ, i64_w, i32_w]
   rfl
  refine pure_ (i := 4) (N := some 60) (v := ?_) (a' := ?_) (ob 9 21) rfl rfl (by kernel_rfl) (fun _ _ _ h => h) (Or.inl ⟨by rfl, ?_⟩) ?_ ?_
  rotate_left
  ·intro w'
   go_simp
   with_reducible rfl
  rotate_left
  ·simp only [Act.put, List.setIfInBounds_toArray, List.set_cons_zero, List.set_cons_succ, i64_w, i32_w]
   rfl
  refine take_ (i := 1) (N := some 57) (v := ?_) (a' := ?_) (ob 9 23) rfl rfl (by kernel_rfl) (fun _ _ _ h => h) (Or.inl ⟨by rfl, ?_⟩) hHeld ?_ ?_
  rotate_left
  ·rintro w' ⟨s0, s1⟩
   go_simp
   with_reducible rfl
  rotate_left
  ·simp only [Act.put, List.setIfInBounds_toArray, List.set_cons_zero, List.set_cons_succ, i64_w, i32_w]
   rfl
  refine take_ (i := 3) (N := some 59) (v := ?_) (a' := ?_) (ob 9 31) rfl rfl (by kernel_rfl) (fun _ _ _ h => h) (Or.inl ⟨by rfl, ?_⟩) hHeld ?_ ?_
  rotate_left
  ·rintro w' ⟨s0, s1⟩
   go_simp
   with_reducible rfl
  rotate_left
  ·simp only [Act.put, List.setIfInBounds_toArray, List.set_cons_zero, List.set_cons_succ, i64_w, i32_w]
   rfl
  refine pure_ (i := 5) (N := some 61) (v := ?_) (a' := ?_) (ob 9 63) rfl rfl (by kernel_rfl) (fun _ _ _ h => h) (Or.inl ⟨by rfl, ?_⟩) ?_ ?_
  rotate_left
  ·intro w'
   go_simp
   with_reducible rfl
  rotate_left
  ·simp only [Act.put, List.setIfInBounds_toArray, List.set_cons_zero, List.set_cons_succ, i64_w, i32_w]
   rfl
  refine one_ (i := 6) (N := some 62) (ob 9 127) rfl rfl (by kernel_rfl) (by decide) (fun K hK => ?_)
  refine Kd.N_append_rows_step k25 (w0 := w) w.heap.size (by rfl) (.tmp 57) (.tmp 61) 22 25 (.agg #[.int .i64 0, .bool false, .int .i64 0, .string ⟨#[]⟩, .slice none 0 0, .slice none 0 0]) 88 rfl Tryz.underlying22 info25' rfl (by decide) (by omega) (.slice Av5 (n + 1) cv5) i2 (t.f4.drop (n + 1)) _ _ _ (okI w ok0 bo (.slice Av6 t.f5.length cv6)) (fun k => ok0 k ∧ k < w.heap.size) rfl rfl HP.out.I (by have h_ := Kd.F_cut (Kd.F_below (HT.out.bound.1) HP.out.B) (show (n + 1) ≤ t.f4.length by omega) HT.out.2.1; rw [List.length_drop] at h_; exact h_) HP.out.oldI HP.out.freshI HP.out.B HP.out.size (by have := LI2.out; rw [this]; omega) ?_
  intro v7 w7 ho hb hg hat
  have n1 := Aside0.mk (HP.out.appI ho hb hg)
  clear HP ho hb hg hat
  have HP := n1
  clear n1
  obtain ⟨Av7, cv7, rfl⟩ := Kd.V_slice (Kd.N_V (base' := 0) HP.out.I)
  rw [show (i2 ++ t.f4.drop (n + 1) : List S25).length = t.f4.length from by rw [List.length_append, LI2.out, List.length_drop]; omega] at HP ⊢
  refine hK.out _ _ ⟨(blk_cell HP.out.O 4).trans rfl, (blk_cell HP.out.T 4).trans rfl⟩ (fun hHeld => ?_)
  clear hK K
  refine norm_ (a' := ?_) ?_ ?_
  rotate_left
  ·show Act.put _ (some 62) _ = _
   simp only [Act.put, List.setIfInBounds_toArray, List.set_cons_zero, List.set_cons_succ, i64_w, i32_w]
   rfl
  refine pure_ (i := 7) (N := some 63) (v := ?_) (a' := ?_) (ob 9 255) rfl rfl (by kernel_rfl) (fun _ _ _ h => h) (Or.inl ⟨by rfl, ?_⟩) ?_ ?_
  rotate_left
  ·intro w'
   go_simp
   with_reducible rfl
  rotate_left
  ·simp only [Act.put, List.setIfInBounds_toArray, List.set_cons_zero, List.set_cons_succ, i64_w, i32_w]
   rfl
  refine last_ (i := 8) (N := none) (ob 9 511) rfl rfl (by kernel_rfl) (by decide) (fun K hK => ?_)
  have y4 : w7.cell? ⟨bo, 4, none⟩ = some (.slice Av5 (n + 1) cv5) := (blk_cell HP.out.O 4).trans rfl
  have z4 := blk_frozen HP.out.O 4
  refine skip_ (w1 := ?_) (by rfl) rfl ?_ ?_
  rotate_left
  ·go_simp
   rfl
  clear y4 z4
  have n1 := Aside0.mk (HP.out.setI (.slice Av7 t.f4.length cv7))
  clear HP
  have HP := n1
  clear n1
  generalize w7.setCell ⟨bo, 4, none⟩ (.slice Av7 t.f4.length cv7) = W18 at HP ⊢
  refine hK.out _ _ ?_
  clear hK K
  refine done_ (by kernel_rfl) ?_
  have BO := Aside0.mk HP.out.O
  have BR := Aside0.mk HP.out.R
  have yo_0 : W18.cell? ⟨bo, 0, none⟩ = some (.int .i64 6) := (blk_cell BO.out 0).trans rfl
  have yo_1 : W18.cell? ⟨bo, 1, none⟩ = some (.bool false) := (blk_cell BO.out 1).trans rfl
  have yo_2 : W18.cell? ⟨bo, 2, none⟩ = some (.int .i64 0) := (blk_cell BO.out 2).trans rfl
  have yo_3 : W18.cell? ⟨bo, 3, none⟩ = some (.string ⟨#[]⟩) := (blk_cell BO.out 3).trans rfl
  have yo_4 : W18.cell? ⟨bo, 4, none⟩ = some ((.slice Av7 t.f4.length cv7)) := (blk_cell BO.out 4).trans rfl
  have yo_5 : W18.cell? ⟨bo, 5, none⟩ = some ((.slice Av6 t.f5.length cv6)) := (blk_cell BO.out 5).trans rfl
  have yr_0 : W18.cell? ⟨br, 0, none⟩ = some (.int .i64 0) := (blk_cell BR.out 0).trans rfl
  have yr_1 : W18.cell? ⟨br, 1, none⟩ = some (.bool false) := (blk_cell BR.out 1).trans rfl
  have yr_2 : W18.cell? ⟨br, 2, none⟩ = some (.int .i64 0) := (blk_cell BR.out 2).trans rfl
  have yr_3 : W18.cell? ⟨br, 3, none⟩ = some (.string ⟨#[]⟩) := (blk_cell BR.out 3).trans rfl
  have yr_4 : W18.cell? ⟨br, 4, none⟩ = some (.slice none 0 0) := (blk_cell BR.out 4).trans rfl
  have yr_5 : W18.cell? ⟨br, 5, none⟩ = some (.slice none 0 0) := (blk_cell BR.out 5).trans rfl
  have zr_0 := blk_frozen BR.out 0
  have zr_1 := blk_frozen BR.out 1
  have zr_2 := blk_frozen BR.out 2
  have zr_3 := blk_frozen BR.out 3
  have zr_4 := blk_frozen BR.out 4
  have zr_5 := blk_frozen BR.out 5
  go_wp2_with fail
  all_goals
   refine bodyPost_ret (results_cell_row rfl _ _ br 25 #[.int .i64 6, .bool false, .int .i64 0, .string ⟨#[]⟩, (.slice Av7 t.f4.length cv7), (.slice Av6 t.f5.length cv6)] (0, 0) _ rfl (put6 BR.out _ _ _ _ _ _) Tryz.underlying25 rfl (by kernel_rfl)) rfl ?_
   have hE := HE.out
   rw [if_pos trivial, Int.toNat_natCast, ← List.nil_append (t.f4.take n), HI1.out, HI2.out, ← List.nil_append (t.f5.take n), HK1.out, HK2.out] at hE
   subst hE
   have a5 := Kd.V_reads' (Kd.R_V (base' := 0) HP.out.K)
   have a4 := Kd.V_reads' (Kd.N_V (base' := 0) HP.out.I)
   obtain ⟨rK, rI, rB⟩ := HP.out.res (.int .i64 6) (.bool false) (.int .i64 0) (.string ⟨#[]⟩) ((.slice Av7 t.f4.length cv7)) ((.slice Av6 t.f5.length cv6))
   have b5 := Kd.V_reads' (Kd.R_V (base' := 0) rK)
   have b4 := Kd.V_reads' (Kd.N_V (base' := 0) rI)
   refine ⟨Av7, cv7, Av6, cv6, ?_, ⟨Kd.F_mono (Kd.V_at (Kd.N_V (base' := 0) rI)).2.2 (fun k hk => hk.1.elim (fun h_ => .inl h_.1) (fun h_ => .inr (by omega))), Nat.le_trans (Nat.le_of_eq b4.1.symm) b4.2.1, Kd.F_mono (Kd.V_at (Kd.R_V (base' := 0) rK)).2.2 (fun k hk => .inr (by omega)), Nat.le_trans (Nat.le_of_eq b5.1.symm) b5.2.1⟩, rB⟩
   show _ = Ending.returned (.agg #[.int .i64 6, .bool false, .int .i64 0, .string ⟨#[]⟩, .slice Av7 (i2 ++ t.f4.drop (n + 1)).length cv7, .slice Av6 (k2 ++ t.f5.drop (n + 1)).length cv6])
   rw [← b4.1, ← b5.1]
end Go.Proofs.YtlofkjdcapbohaaGreatDoor.PConfKeeps
