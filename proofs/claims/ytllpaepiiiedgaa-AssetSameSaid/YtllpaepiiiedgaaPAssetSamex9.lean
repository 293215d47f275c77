-- Made for this claim by a program of this session (xprint.py over the kit's printing program); Lean checks it.
import Derived.Test.YtllpaepiiiedgaaPAssetSamex0
import Derived.Test.YtllpaepiiiedgaaPAssetSamex6
import Derived.Test.YtllpaepiiiedgaaPAssetSamex7
import Derived.Test.YtllpaepiiiedgaaPAssetSamex8
namespace Go.Proofs.Ytllpaepiiiedgaa.PAssetSame
open Go.RowKit Go.Proofs.YtllpaepiiiedgaaW.PrintWords Go.Proofs.YtllpaepiiiedgaaW.PrintLast Go.Proofs.YtllpaepiiiedgaaW.PrintMore
attribute [local go_sem] max2_int min2_int max_two min_two max_three min_three max_four min_four   -- for this text's walks alone
set_option linter.unusedVariables false
set_option linter.unusedSimpArgs false

/-! ### asset_smaller: function 13 -/
section
open Go.Shelf
attribute [local go_sem] Oper.semAt_some
/-- no two Blanks side by side -/
def noBB (l : List S33) : Bool := (List.range l.length).all fun i => !((rd_T33 l i).f0 == 4) || i == 0 || !((rd_T33 l ((i : Int) - 1)).f0 == 4)
theorem noBB_at {l : List S33} (h : noBB l = true) {i : Nat} (hi : i < l.length) (h0 : i ≠ 0) (h4 : (rd_T33 l i).f0 = 4) : (rd_T33 l ((i : Int) - 1)).f0 ≠ 4 := by
  have := List.all_eq_true.1 h i (List.mem_range.2 hi)
  simp [h4, h0] at this
  exact this
theorem sg_take {l : List S33} {j : Nat} (h : j < l.length) : l.take (j + 1) = l.take j ++ [rd_T33 l j] := by
  unfold rd_T33
  rw [Int.toNat_natCast, List.getD_eq_getElem?_getD, List.getElem?_eq_getElem h, Option.getD_some, List.take_succ_eq_append_getElem h]
/-- what a round of singles' loop keeps: what lay ahead of the call, and the iterator's own box -/
def KpS (n₀ Bs : Nat) (W W' : World) : Prop := Below n₀ W W' ∧ ∀ v, W.cell? ⟨Bs, 0, none⟩ = some v → W'.cell? ⟨Bs, 0, none⟩ = some v
theorem KpS.trans {n₀ Bs : Nat} {A B C : World} (h : KpS n₀ Bs A B) (k : KpS n₀ Bs B C) : KpS n₀ Bs A C := ⟨h.1.trans k.1, fun v hv => k.2 v (h.2 v hv)⟩
set_option maxRecDepth 100000 in
set_option maxHeartbeats 2000000 in
theorem singles1_in (F : Fence) (n : Nat) (h37 : F.fn 37) (hro : F.round = none) (hn : 1 ≤ n) (l Bs : Nat) (A : Option Addr) (cap : Nat) (zs : List S33) (hz : noBB zs = true) (hlen : zs.length ≤ 1000000) (w0 : World) (hC : Kd.C k33 w0 A zs.length zs) (J Jx : List S33 → World → Prop)
    (hY : ∀ pre x W, J pre W → pre.length < zs.length → YieldAt F (n - 1) Try.prog l #[.agg #[.int .i64 x.f0, .string x.f1]] W fun e W' =>
      (e = .returned (.bool true) ∧ J (pre ++ [x]) W' ∧ KpS w0.heap.size Bs W W') ∨ (e = .returned (.bool false) ∧ Jx (pre ++ [x]) W'))
    (hJ : ∀ pre W o, J pre W → J pre (W.alloc o))
    (W : World) (hW : Below w0.heap.size w0 W) (hBs : W.cell? ⟨Bs, 0, none⟩ = some (.slice A zs.length cap)) (h0 : J [] W) :
    CallsIn F n Try.prog 37 #[.func (.yield l) #[] #[], .pointer (some ⟨Bs, 0, none⟩)] W fun e W' => (∃ v, e = .returned v) ∧
      ((∃ ys, ys = zs ∧ J ys W') ∨ (∃ pre, (∃ k, k ≤ zs.length ∧ pre = zs.take k) ∧ Jx pre W')) := by
  refine callsIn_of_wp Try.func37 rfl h37 ?_ hro
  simp only [Try.ntmps37, List.size_toArray, List.length_cons, List.length_nil, Nat.reduceAdd, Nat.reduceSub, Array.replicate_succ, Array.replicate_zero, List.push_toArray, List.append_toArray, List.nil_append, List.cons_append]
  have HZ := Lib.hid hz
  have HL := Lib.hid hlen
  have HB0 := Lib.hid hBs
  clear hz hlen
  gi_wp2
  clear hBs
  gi_loopw [7] (fun i wr => ∃ k : Nat, k ≤ zs.length ∧ i = .int .i64 k ∧ J (zs.take k) wr ∧ Hid (Below w0.heap.size w0 wr) ∧ Hid (wr.cell? ⟨Bs, 0, none⟩ = some (.slice A zs.length cap))) (fun i _ => zs.length - (intOf i).toNat)
  case atStart => exact ⟨0, Nat.zero_le _, rfl, h0, hW, HB0⟩
  case round =>
    clear HB0
    obtain ⟨k, hk, rfl, hJk, HB, HBc⟩ := hrel
    have hkb : zs.length ≤ 1000000 := HL.out
    by_cases hlt : k < zs.length
    · obtain ⟨ad, rfl, hc1, hc2⟩ := at_T33 (Kd.C_below hC HB.out) k (by omega) (by omega)
      rw [Int.toNat_natCast] at hc1 hc2
      have hcB := HBc.out
      have HA : ∀ o : Obj, (wr.alloc o).cell? ⟨Bs, 0, none⟩ = some (.slice (some ad) zs.length cap) := fun o => (((Below.refl wr.heap.size wr).alloc (Nat.le_refl _) o).cell (p := ⟨Bs, 0, none⟩) (World.block_lt_of_cell? wr _ hcB)).trans hcB
      have HA' := Lib.hid HA
      clear HA
      have hsg := sg_take hlt
      have hnb := fun h0 h4 => noBB_at HZ.out hlt h0 h4
      obtain ⟨⟨kd, tx⟩, hx⟩ : ∃ x, rd_T33 zs k = x := ⟨_, rfl⟩
      rw [hx] at hc1 hc2 hsg hnb
      have HSG := Lib.hid hsg
      have HNB := Lib.hid hnb
      clear hx hsg hnb
      dsimp only at hc1 hc2
      obtain ⟨fn, tmps, assign, body, hy, hR⟩ := hY _ ⟨kd, tx⟩ (wr.alloc (.cells #[.int .i64 kd, .string tx] 33)) (hJ _ _ _ hJk) (by rw [List.length_take]; omega)
      try dsimp only at hy
      by_cases h4 : kd = 4
      · subst h4
        by_cases hk0 : k = 0
        · subst hk0
          have e0 : ad.add (0 * 2) = ad := by simp [Addr.add]
          rw [e0] at hc1 hc2
          gi_wp2
          refine hR.mono ?_
          rintro e W3 (⟨rfl, hJ3, hk3⟩ | ⟨rfl, hJx3⟩)
          · have HB3 : Hid (Below w0.heap.size w0 W3) := (HB.out.alloc HB.out.size _).trans hk3.1
            have HC3 := Lib.hid (hk3.2 _ (HA'.out _))
            clear hk3
            gi_wp2
            go_roundw
            case rel => exact ⟨1, by omega, by simp, by rw [HSG.out]; exact hJ3, HB3, HC3⟩
            case measure => simp [intOf]; omega
          · gi_wp2
            refine bodyPost_ret (results_none rfl _ _ _) rfl ?_
            exact ⟨⟨_, rfl⟩, .inr ⟨_, ⟨1, by omega, HSG.out.symm⟩, hJx3⟩⟩
        · have hne := HNB.out hk0 rfl
          have hne' : ((rd_T33 zs ((k : Int) - 1)).f0 != 4) = true := bne_iff_ne.2 hne
          obtain ⟨ad', e', hd1, hd2⟩ := at_T33 (Kd.C_below hC HB.out) ((k : Int) - 1) (by omega) (by omega)
          cases e'
          have hcB' : (wr.alloc (.cells #[.int .i64 4, .string tx] 33)).cell? ⟨Bs, 0, none⟩ = some (.slice (some ad) zs.length cap) := (((Below.refl wr.heap.size wr).alloc (Nat.le_refl _) _).cell (p := ⟨Bs, 0, none⟩) (World.block_lt_of_cell? wr _ hcB)).trans hcB
          have hd1' : (wr.alloc (.cells #[.int .i64 4, .string tx] 33)).cell? (ad.add ((k - 1) * 2)) = some (.int .i64 (rd_T33 zs ((k : Int) - 1)).f0) := by
            have e1 : ((k : Int) - 1).toNat = k - 1 := by omega
            rw [e1] at hd1
            exact (((Below.refl wr.heap.size wr).alloc (Nat.le_refl _) _).cell (World.block_lt_of_cell? wr _ hd1)).trans hd1
          have hkw : wrap64 ((k : Int) - 1) = (k : Int) - 1 := by have := HL.out; unfold wrap64; omega
          have hk0' : (0 ≤ (k : Int) - 1) = True := eq_true (by omega)
          have hk1' : (1 ≤ (k : Int)) = True := eq_true (by omega)
          have hk2' : ((k : Int) - 1 < (zs.length : Int)) = True := eq_true (by omega)
          have HD := Lib.hid (And.intro hlt hk)
          have hk1 : ((k : Int) == 0) = false := by simpa using hk0
          have HK0 := Lib.hid hk0
          have H4 := Lib.hid hne
          clear hne hk0
          gi_wp2
          refine hR.mono ?_
          rintro e W3 (⟨rfl, hJ3, hk3⟩ | ⟨rfl, hJx3⟩)
          · have HB3 : Hid (Below w0.heap.size w0 W3) := (HB.out.alloc HB.out.size _).trans hk3.1
            have HC3 := Lib.hid (hk3.2 _ (HA'.out _))
            clear hk3
            gi_wp2
            go_roundw
            case rel => exact ⟨k + 1, by omega, by simp, by rw [HSG.out]; exact hJ3, HB3, HC3⟩
            case measure => simp [intOf]; omega
          · gi_wp2
            refine bodyPost_ret (results_none rfl _ _ _) rfl ?_
            exact ⟨⟨_, rfl⟩, .inr ⟨_, ⟨k + 1, by omega, HSG.out.symm⟩, hJx3⟩⟩
      · have h4' : (kd != 4) = true := bne_iff_ne.2 h4
        have H4 := Lib.hid h4
        clear h4
        gi_wp2
        refine hR.mono ?_
        rintro e W3 (⟨rfl, hJ3, hk3⟩ | ⟨rfl, hJx3⟩)
        · have HB3 : Hid (Below w0.heap.size w0 W3) := (HB.out.alloc HB.out.size _).trans hk3.1
          have HC3 := Lib.hid (hk3.2 _ (HA'.out _))
          clear hk3
          gi_wp2
          go_roundw
          case rel => exact ⟨k + 1, by omega, by simp, by rw [HSG.out]; exact hJ3, HB3, HC3⟩
          case measure => simp [intOf]; omega
        · gi_wp2
          refine bodyPost_ret (results_none rfl _ _ _) rfl ?_
          exact ⟨⟨_, rfl⟩, .inr ⟨_, ⟨k + 1, by omega, HSG.out.symm⟩, hJx3⟩⟩
    · obtain rfl : k = zs.length := by omega
      gi_wp2
      go_end0
      exact ⟨⟨_, rfl⟩, .inl ⟨_, List.take_length, hJk⟩⟩
theorem singles_any (A : Option Addr) (n c : Nat) (w : World) :
    Calls Try.prog 29 #[.slice A n c] w fun e w' => e = .returned (.func (.func 37) #[] #[.pointer (some ⟨w.heap.size, 0, none⟩)]) ∧ w' = w.alloc (.cells #[.slice A n c] 27) := by
  go_enter Try.func29, Try.ntmps29
  go_wp2
  go_ret
  exact ⟨rfl, rfl⟩
theorem singles_stops (n : Nat) (hn : 1 ≤ n) (Bs : Nat) (A : Option Addr) (cap : Nat) (zs : List S33) (hz : noBB zs = true) (hlen : zs.length ≤ 1000000) (w0 W0 : World) (hC : Kd.C k33 w0 A zs.length zs) (hb : Below w0.heap.size w0 W0) (hBs : W0.cell? ⟨Bs, 0, none⟩ = some (.slice A zs.length cap)) :
    SeqStopsK Fence.wide n Try.prog 37 #[.pointer (some ⟨Bs, 0, none⟩)] (fun x : S33 => #[Value.agg #[.int .i64 x.f0, .string x.f1]]) (KpS w0.heap.size Bs) (fun ys => ys = zs) (fun _ => True) zs.length W0 := fun l J Jx W hW hJ _ hY h0 => by
  have hlt := World.block_lt_of_cell? W0 _ hBs
  refine (singles1_in Fence.wide n trivial rfl hn l Bs A cap zs hz hlen w0 hC J Jx hY (fun pre W1 o h => ?_) W (hb.trans (hW.mono hb.size)) ((hW.cell (p := ⟨Bs, 0, none⟩) hlt).trans hBs) h0).mono ?_
  · exact hJ pre W1 _ none h (World.grownBy_alloc W1 o none) (fun r e => by cases e)
  · rintro e W' ⟨he, ⟨ys, hy, hj⟩ | ⟨pre, _, hj⟩⟩
    · exact ⟨he, .inl ⟨ys, hy, hj⟩⟩
    · exact ⟨he, .inr ⟨pre, trivial, hj⟩⟩
def c33 (l : List S33) : List Value := l.flatMap fun x => [.int .i64 x.f0, .string x.f1]
theorem c33_snoc (l : List S33) (x : S33) : c33 (l ++ [x]) = c33 l ++ [.int .i64 x.f0, .string x.f1] := by simp [c33]
theorem c33_reps (R : S33 → List Value → Prop) (h : ∀ x : S33, R x [.int .i64 x.f0, .string x.f1]) : ∀ l : List S33, Reps R 2 l (c33 l) := fun l => by
  suffices H : ∀ a b : List S33, Reps R 2 a (c33 a) → Reps R 2 (a ++ b) (c33 (a ++ b)) by simpa using H [] l (by simpa [c33] using Reps.none R 2)
  intro a b
  induction b generalizing a with
  | nil => intro h; simpa using h
  | cons x xs ih =>
    intro h1
    have h2 : Reps R 2 (a ++ [x]) (c33 (a ++ [x])) := by rw [c33_snoc]; exact h1.snoc (h x) rfl
    have h3 := ih _ h2
    simpa using h3
theorem c33_R {W : World} {B : Nat} {v : Value} {l : List S33} (h : W.ownsRow B 33 2 v l.length (c33 l)) : Kd.R k33 33 W B (fun _ => True) v l :=
  ⟨fun _ _ => trivial, c33 l, h, c33_reps _ (fun x => k33_mkM _ _ _ x) l⟩
def smDrop (k : Nat) (kind : Int) (sg : List S33) (i : Int) : Option Bool := if ((rd_T33 sg i).f0 == 4) = true then (asset_needed.f k kind sg i).bind fun b => some (!b) else some false
def smLoop : Nat → Int → List S33 → List Bool → List S33 → Int → Option (List S33)
  | 0, _, _, _, _, _ => none
  | k + 1, kind, sg, wo, out, i =>
    if i < (sg.length : Int) then
      if 0 ≤ i ∧ out.length ≤ 1000000 then
        (smDrop k kind sg i).bind fun d1 => if d1 = true then smLoop k kind sg wo out (i + 1) else
        if (kind == 1) = true then
          (if i < (wo.length : Int) then (if rdOf false wo i = true then smLoop k kind sg wo out (i + 1) else smLoop k kind sg wo (out ++ [rd_T33 sg i]) (i + 1)) else none)
        else smLoop k kind sg wo (out ++ [rd_T33 sg i]) (i + 1)
      else none
    else some out
def asset_smaller.f (k : Nat) (kind : Int) (l0 : List S33) : Option (List S33) := if (noBB l0 && decide (l0.length ≤ 1000000)) = true then (asset_idle.f k l0).bind fun wo => smLoop k kind l0 wo [] 0 else none
theorem smDrop_mono (k : Nat) (kind : Int) (sg : List S33) (i : Int) : LeO (smDrop k kind sg i) (smDrop (k + 1) kind sg i) := by
  unfold smDrop
  exact LeO.ite (LeO.bind (asset_needed.mono _ _ _ _) (fun _ => LeO.refl _)) (LeO.refl _)
theorem smLoop_mono : ∀ (k : Nat) (kind : Int) (sg : List S33) (wo : List Bool) (out : List S33) (i : Int), LeO (smLoop k kind sg wo out i) (smLoop (k + 1) kind sg wo out i)
  | 0, _, _, _, _, _ => LeO.none _
  | k + 1, kind, sg, wo, out, i => by
    show LeO (if _ then _ else _) (if _ then _ else _)
    refine LeO.ite (LeO.ite (LeO.bind (smDrop_mono k kind sg i) (fun d1 => LeO.ite (smLoop_mono k _ _ _ _ _) (LeO.ite (LeO.ite (LeO.ite (smLoop_mono k _ _ _ _ _) (smLoop_mono k _ _ _ _ _)) (LeO.refl _)) (smLoop_mono k _ _ _ _ _)))) (LeO.refl _)) (LeO.refl _)
theorem asset_smaller.mono : ∀ a0 a1 k, LeO (asset_smaller.f k a0 a1) (asset_smaller.f (k + 1) a0 a1) := by
  intro kind l k
  unfold asset_smaller.f
  exact LeO.ite (LeO.bind (asset_idle.mono _ _) (fun _ => smLoop_mono _ _ _ _ _ _)) (LeO.refl _)
set_option maxHeartbeats 1500000 in
set_option maxRecDepth 100000 in
theorem asset_smaller.calls (k : Nat) (kind : Int) (A0 : Option Addr) (c0 : Nat) (l0 : List S33) (r : List S33) (w : World) (hr0 : Kd.C k33 w A0 l0.length l0) (hc0 : l0.length ≤ c0) (h : asset_smaller.f k kind l0 = some r) (hG : Gh.G w := by repeat' (first | with_reducible assumption | with_reducible apply Gh.G.drewN | with_reducible apply Gh.G.drew | with_reducible apply Gh.G.alloc | (with_reducible refine Gh.G.set ?_ (by assumption) (by assumption)) | exact Gh.G.aside (by assumption) (by assumption))) :
    Calls Try.prog 13 #[.int .i64 kind, .slice A0 l0.length c0] w fun e w' => ∃ v0_ : Value, e = .returned (v0_) ∧ Kd.R k33 33 w' w.heap.size (fun _ => True) v0_ r ∧ Below w.heap.size w w' := by
  unfold asset_smaller.f at h
  split at h
  case isFalse => cases h
  rename_i hg
  rw [Bool.and_eq_true, decide_eq_true_eq] at hg
  obtain ⟨hz, hlen⟩ := hg
  have HF := Aside0.mk h
  clear h
  obtain ⟨i0, hi, hz0, hz1, hz2⟩ := info_parts info33
  refine (callsIn_wide (n := 5)).1 (callsIn_of_wp_marks Try.func13 rfl trivial ?_ rfl)
  simp only [Try.ntmps13, List.size_toArray, List.length_cons, List.length_nil, Nat.reduceAdd, Nat.reduceSub, Array.replicate_succ, Array.replicate_zero, List.push_toArray, List.append_toArray, List.nil_append, List.cons_append]
  refine wpIn_wide.2 ?_
  have HR := Lib.hid hr0
  have HZ := Lib.hid hz
  have HL := Lib.hid hlen
  clear hr0 hz hlen
  go_wp2_with (go_at_call 29; refine (singles_any _ _ _ _).mono ?_; rintro e w' ⟨rfl, rfl⟩)
  have bS := (Boxed.new w 27 (.slice none 0 0)).alloc (.cells #[.slice A0 l0.length c0] 27)
  have bL := Boxed.new (w.alloc (.cells #[.slice none 0 0] 27)) 27 (.slice A0 l0.length c0)
  have hB0 : Below w.heap.size w ((w.alloc (.cells #[.slice none 0 0] 27)).alloc (.cells #[.slice A0 l0.length c0] 27)) := ((Below.refl _ w).alloc (Nat.le_refl _) _).alloc (by simp) _
  have hsz : ((w.alloc (.cells #[.slice none 0 0] 27)).alloc (.cells #[.slice A0 l0.length c0] 27)).heap.size = w.heap.size + 2 := by simp
  simp only [World.size_alloc] at bL
  obtain ⟨W0, hW0⟩ : ∃ W0, (w.alloc (.cells #[.slice none 0 0] 27)).alloc (.cells #[.slice A0 l0.length c0] 27) = W0 := ⟨_, rfl⟩
  rw [hW0] at bS bL hB0 hsz ⊢
  clear hW0
  refine (wpIn_wide (n := 5)).1 (wpIn_rangeFunc_ownH (F := Fence.wide) (n := 5) rfl (by decide) (gf := 37) (lb := #[.pointer (some ⟨w.heap.size + 1, 0, none⟩)]) rfl trivial (enters_of Try.func37 (by kernel_rfl) rfl)
    (singles_stops 4 (by decide) (w.heap.size + 1) A0 c0 l0 HZ.out HL.out w W0 HR.out hB0 bL.cell) (fun h k => h.trans k)
    (fun W l o o' hl ho h1 h2 => ⟨belowK_b (w := w) (Nat.le_refl _) W l o o' (by omega) ho h1 h2, fun v hv => by
      have hb := (grownBy_putObj' W l o').block (w.heap.size + 1) (World.block_lt_of_cell? W _ hv) (fun e => by cases e; omega)
      simp only [World.cell?] at hv ⊢
      rw [hb]
      exact hv⟩) (Below.refl _ _) (fun _ => rfl)
    (fun pre W => ((∃ v, Boxed W w.heap.size 27 v ∧ W.ownsRow w.heap.size 33 2 v pre.length (c33 pre) ∧ True) ∧ Boxed W (w.heap.size + 1) 27 (.slice A0 l0.length c0)) ∧ Below w.heap.size w W)
    (fun _ _ _ => False)
    (OwnFrom.and (OwnFrom.and (Own.from (holdsRow_own w.heap.size w.heap.size 27 33 2 (fun pre : List S33 => pre.length) (fun pre => c33 pre) (fun _ _ => True)) _) (Own.from (boxed_own _ _ _) _)) (ownFrom_below (Nat.le_refl _) (by omega)))
    (fun _ _ _ _ _ hs _ _ => hs)
    ⟨⟨⟨_, bS, World.ownsRow_nil _ _ _ _, trivial⟩, bL⟩, hB0⟩
    (fun x a' W => ∃ Bx, w.heap.size + 1 < Bx ∧ W.heap[Bx]? = some (.cells #[.int .i64 x.f0, .string x.f1] 33 (0, 0)) ∧ a' = { tmps := #[.int .i64 kind, .slice A0 l0.length c0, undef, undef, .slice none 0 0, .pointer (some ⟨w.heap.size, 0, none⟩), .pointer (some ⟨Bx, 0, none⟩), undef, undef, undef, undef, .slice A0 l0.length c0, .func (.func 37) #[] #[.pointer (some ⟨w.heap.size + 1, 0, none⟩)], .agg #[.int .i64 x.f0, .string x.f1], undef, undef, undef, undef, undef, undef, undef, undef, undef, undef, undef, undef, undef, undef, undef, undef, undef, undef, undef, undef, undef, undef, undef, undef, undef, undef, undef, undef, undef, undef, undef, undef, undef, undef, undef, undef, undef, undef, undef], defers := [] })
    (fun x a' _ X Y row hs hg hr => by
      obtain ⟨Bx, h1, h2, h3⟩ := hs
      exact ⟨Bx, h1, blk_grown h2 hg (fun e => by obtain ⟨_, o, ho, hc⟩ := hr Bx e.symm; rw [h2] at ho; cases ho; cases hc), h3⟩)
    ?assign ?body ?done ?stop)
  case assign =>
    rintro l pre x W K ⟨⟨⟨v, hv, hrow, _⟩, hL⟩, hB⟩ hK
    gi_wp2
    exact hK _ _ ((KeepsOthers.alloc _ _).from _) ⟨(Below.refl _ W).alloc hB.size _, fun u hu => (((Below.refl W.heap.size W).alloc (Nat.le_refl _) _).cell (p := ⟨w.heap.size + 1, 0, none⟩) (World.block_lt_of_cell? W _ hu)).trans hu⟩ ⟨⟨⟨v, hv.alloc _, hrow.alloc _, trivial⟩, hL.alloc _⟩, hB.alloc hB.size _⟩ ⟨W.heap.size, hL.lt, heap_alloc_new W _, rfl⟩
  case body =>
    rintro l pre x a' W hl ⟨r, hr⟩ ⟨⟨⟨v, hv, hrow, _⟩, hL⟩, hB⟩ ⟨Bx, hBx, bX, rfl⟩ hlt
    have hc := hv.cell
    have x0 : W.cell? ⟨Bx, 0, none⟩ = some (.int .i64 x.f0) := blk_cell bX 0
    have x1 : W.cell? ⟨Bx, 1, none⟩ = some (.string x.f1) := blk_cell bX 1
    have hlen := HL.out
    have hW0 : w.heap.size ≤ W0.heap.size := by omega
    gi_wp2_with (gi_at_builtin; refine wpListIn_append_own _ rfl _ _ 27 rfl w.heap.size 33 i0 (.agg #[.int .i64 0, .string ⟨#[]⟩]) 2 24 Try.underlying27 hi hz0 hz1 hz2 rfl (by decide) _ _ _ rfl (hrow.alloc _) ⟨W.heap.size, 0, none⟩ 1 1 [.int .i64 x.f0, .string x.f1] rfl rfl ?c1 ?c2 ?c3 ?c4 ?c5 ?_)
    case c1 =>
      intro j u hj
      match j, hj with
      | 0, hj => simp at hj; subst hj; simp [Addr.add]
      | 1, hj => simp at hj; subst hj; simp [Addr.add]
    case c2 => simp [Value.oneCell']
    case c3 => unfold maxLen; omega
    case c4 => omega
    case c5 => have := hB.size; simp; omega
    intro v' w1 hown' hgrow _
    obtain ⟨g', cap', rfl⟩ := ownsRow_succ hown'
    obtain ⟨hv1, hv2, hr2, hk2, hb2⟩ := hv.appended (by decide) hrow hB.size (Nat.le_refl _) hown' hgrow
    have hL1 := ((hL.alloc (.cells #[.int .i64 x.f0, .string x.f1] 33)).kept hgrow (hL.not_row (by decide) hrow)).other (show w.heap.size + 1 ≠ w.heap.size by omega) (.slice (some ⟨g', 0, none⟩) (pre.length + 1) cap')
    have hc1 := hv1.cell
    have hf1 := hv1.frozen
    gi_wp2
    exact ⟨hk2.from _, ⟨hb2, fun u hu => by rw [hL.cell] at hu; cases hu; exact hL1.cell⟩, ⟨⟨_, hv2, by rw [c33_snoc, List.length_append]; exact hr2, trivial⟩, hL1⟩, hB.trans hb2⟩
  case done =>
    rintro D ys W hD hys ⟨⟨⟨v, hv, hrow, _⟩, hL⟩, hB⟩ hK
    have hys' : l0 = ys := hys.symm
    subst hys'
    clear hys
    obtain ⟨A, c, rfl, hcap, hC⟩ := Kd.R_reads (c33_R hrow)
    have hc := hv.cell
    have HGW := hG.step hB
    obtain ⟨wo, hwo, H⟩ := Option.bind_eq_some_iff.1 HF.out
    have HWO := Aside0.mk hwo
    have H0 := Aside0.mk H
    clear HF hwo H
    go_wp2_with fail
    refine (asset_idle.calls k A c l0 wo W hC hcap HWO.out HGW).mono ?_
    rintro e W1 ⟨v8, rfl, h8, hb1⟩
    obtain ⟨A8, c8, rfl, hcap8, hC8⟩ := Kd.R_reads h8
    have hcS : W1.cell? ⟨w.heap.size, 0, none⟩ = some (.slice A l0.length c) := (hb1.cell (p := ⟨w.heap.size, 0, none⟩) hv.lt).trans hc
    have HC1 := Aside0.mk (Kd.C_below hC hb1)
    have HC8 := Aside0.mk hC8
    have HCAP := Aside0.mk hcap
    have HD1 := Aside0.mk ((hb1.block D (Array.getElem?_eq_some_iff.1 hK).1).trans hK)
    have HBw := Aside0.mk (below_step hB hb1)
    have HG1 := HGW.step hb1
    have HWS := Aside0.mk (show w.heap.size < W1.heap.size from Nat.lt_of_lt_of_le hv.lt hb1.size)
    have HDl := Aside0.mk hD
    clear h8 hb1 hC8 hC hcap hcap8 hv hrow hL hB hK hc HGW HWO hD
    have HN := HL.out
    go_wp2_with fail
    clear HN
    have HcS := Aside0.mk hcS
    clear hcS
    go_loopg [7, 22] k (fun kq v7 v22 wr => ∃ (i : Int) (out : List S33), v22 = .int .i64 i ∧ Aside0 (smLoop kq kind l0 wo out i = some r) ∧ Aside0 (kq ≤ k) ∧ Aside0 (Kd.R k33 33 wr W1.heap.size (fun _ => True) v7 out) ∧ Aside0 (Below W1.heap.size W1 wr))
    case atStart => exact ⟨0, [], rfl, H0, ⟨Nat.le_refl _⟩, ⟨Kd.R_nil _ _ _ _ _⟩, ⟨Below.refl _ _⟩⟩
    case round =>
      clear H0
      obtain ⟨i, out, rfl, HA, HK, HO, HB⟩ := hrel
      cases gk with
      | zero => exact absurd HA.out (by simp [smLoop])
      | succ k1 =>
        have H := HA.out
        clear HA
        unfold smLoop at H
        by_cases c1 : i < (l0.length : Int)
        · rw [if_pos c1] at H
          by_cases c2 : 0 ≤ i ∧ out.length ≤ 1000000
          · rw [if_pos c2] at H
            obtain ⟨d1, hd1, H⟩ := Option.bind_eq_some_iff.1 H
            obtain ⟨p, hl⟩ := c2
            obtain ⟨ad, e', hx1, hx2⟩ := at_T33 (Kd.C_below HC1.out HB.out) i p c1
            cases e'
            have hcS := (HB.out.cell (p := ⟨w.heap.size, 0, none⟩) HWS.out).trans HcS.out
            have HP := Aside0.mk (And.intro p (And.intro c1 hl))
            have hw1 : wrap64 (i + 1) = i + 1 := by have := HL.out; unfold wrap64; omega
            have HW := Aside0.mk hw1
            clear hw1 hl
            replace p := eq_true p
            have c1b := decide_eq_true c1
            replace c1 := eq_true c1
            unfold smDrop at hd1
            obtain ⟨⟨kd, tx⟩, hx⟩ : ∃ x, rd_T33 l0 i = x := ⟨_, rfl⟩
            rw [hx] at hx1 hx2 H hd1
            clear hx
            dsimp only at hx1 hx2 hd1
            by_cases h4 : kd = 4
            · subst h4
              rw [show ((4 : Int) == 4) = true from rfl, if_pos rfl] at hd1
              obtain ⟨nb, hnb, hd1⟩ := Option.bind_eq_some_iff.1 hd1
              have HNB := Aside0.mk hnb
              have hd1 : (!nb) = d1 := Option.some.inj hd1
              subst hd1
              clear hnb
              have hcA := (((Below.refl wr.heap.size wr).alloc (Nat.le_refl _) (.cells #[.int .i64 4, .string tx] 33)).cell (p := ⟨w.heap.size, 0, none⟩) (World.block_lt_of_cell? wr _ hcS)).trans hcS
              go_wp2_with fail
              refine (asset_needed.calls k1 kind (some ad) c l0 i nb _ (Kd.C_alloc (Kd.C_below HC1.out HB.out) _) HCAP.out HNB.out ((HG1.step HB.out).alloc _)).mono ?_
              rintro e Wx ⟨rfl, hb2⟩
              have HTx := Aside0.mk (blk_below (blk_new wr (.cells #[.int .i64 4, .string tx] 33)) hb2)
              have HOx := Aside0.mk (Kd.R_below (Kd.R_alloc HO.out (.cells #[.int .i64 4, .string tx] 33)) hb2)
              have HBx := Aside0.mk (below_step (below_alloc HB.out (.cells #[.int .i64 4, .string tx] 33)) hb2)
              clear hb2 HO HB hx1 hx2 hcS hcA p c1 c1b
              obtain ⟨kd, hkd⟩ : ∃ kd : Int, kd = 4 := ⟨_, rfl⟩
              rw [← hkd] at HTx H
              have HKD := Aside0.mk hkd
              clear hkd
              generalize wr.heap.size = t at HTx ⊢
              cases nb with
              | false =>
                rw [show (!false) = true from rfl, if_pos rfl] at H
                have HH := Aside0.mk H
                clear H
                have hw1 := HW.out
                go_wp2_with fail
                go_roundg k1
                case measure => have := HK.out; omega
                case rel => exact ⟨i + 1, out, (by first | rfl | (simp; done) | (simp [*]; done)), HH, ⟨by have := HK.out; omega⟩, HOx, HBx⟩
              | true =>
                rw [show (!true) = false from rfl, if_neg Bool.false_ne_true] at H
                by_cases hk1 : kind = 1
                · have hk2 : (kind == 1) = true := beq_iff_eq.2 hk1
                  rw [if_pos hk2] at H
                  have HK1 := Aside0.mk hk1
                  clear hk1
                  split at H
                  case isFalse => cases H
                  rename_i hwl
                  obtain ⟨ad8, cs8, e8, _, hK8, hc8⟩ := Kd.C_get (Kd.C_below HC8.out HBx.out) false i HP.out.1 hwl
                  cases e8
                  have hcs8 : cs8 = [.bool (rdOf false wo i)] := hK8
                  have hc9 : Wx.cell? (ad8.add (i.toNat * 1 + 0)) = some (.bool (rdOf false wo i)) := hc8 0 _ (by rw [hcs8]; rfl)
                  rw [Nat.mul_one, Nat.add_zero] at hc9
                  have hwl1 := eq_true hwl
                  have pp := eq_true HP.out.1
                  clear hcs8 hc8 hK8 hwl
                  generalize rdOf false wo i = bb at *
                  cases bb with
                  | true =>
                    rw [if_pos rfl] at H
                    have HH := Aside0.mk H
                    clear H
                    have hw1 := HW.out
                    go_wp2_with fail
                    go_roundg k1
                    case measure => have := HK.out; omega
                    case rel => exact ⟨i + 1, out, (by first | rfl | (simp; done) | (simp [*]; done)), HH, ⟨by have := HK.out; omega⟩, HOx, HBx⟩
                  | false =>
                    rw [if_neg Bool.false_ne_true] at H
                    have HH := Aside0.mk H
                    clear H
                    have t0 := blk_cell HTx.out 0
                    have t1 := blk_cell HTx.out 1
                    have hw1 := HW.out
                    go_wp2_with (at_builtin; refine Kd.R_append k33 (w0 := W1) W1.heap.size rfl (.tmp 27) (.tmp 29) 27 33 (.agg #[(.int .i64 0), (.string ⟨#[]⟩)]) 24 rfl Try.underlying27 info33 rfl (by decide) (by omega) u7 out (⟨kd, tx⟩ : S33) [.int .i64 kd, .string tx] (fun _ => True) (fun _ => False) rfl (by first | (go_simp; done) | (go_simp; rfl)) ?aP (fun _ hk => hk.elim) ?aF ?aO ?aB ?aS ?aL ?_; (case aP => exact k33_mkM _ _ _ (⟨kd, tx⟩ : S33)); (case aB => first | exact HBx.out | exact below_alloc HBx.out _); (case aF => exact (fun _ _ => trivial)); (case aO => first | exact HOx.out | exact Kd.R_alloc HOx.out _); (case aS => first | exact below_size HBx.out | exact below_size (below_alloc HBx.out _)); (case aL => have := HP.out.2.2; omega); intro v9 W9 ho hb hgr hat; have HO9 := Aside0.mk ho; have HB9 := Aside0.mk hb; clear ho hb hgr hat HTx HOx HBx t0 t1)
                    go_roundg k1
                    case measure => have := HK.out; omega
                    case rel => exact ⟨i + 1, out ++ [⟨kd, tx⟩], (by first | rfl | (simp; done) | (simp [*]; done)), HH, ⟨by have := HK.out; omega⟩, HO9, HB9⟩
                · have hk2 : (kind == 1) = false := beq_eq_false_iff_ne.2 hk1
                  rw [if_neg (by rw [hk2]; decide)] at H
                  clear hk1
                  have HH := Aside0.mk H
                  clear H
                  have t0 := blk_cell HTx.out 0
                  have t1 := blk_cell HTx.out 1
                  have hw1 := HW.out
                  go_wp2_with (at_builtin; refine Kd.R_append k33 (w0 := W1) W1.heap.size rfl (.tmp 27) (.tmp 29) 27 33 (.agg #[(.int .i64 0), (.string ⟨#[]⟩)]) 24 rfl Try.underlying27 info33 rfl (by decide) (by omega) u7 out (⟨kd, tx⟩ : S33) [.int .i64 kd, .string tx] (fun _ => True) (fun _ => False) rfl (by first | (go_simp; done) | (go_simp; rfl)) ?aP (fun _ hk => hk.elim) ?aF ?aO ?aB ?aS ?aL ?_; (case aP => exact k33_mkM _ _ _ (⟨kd, tx⟩ : S33)); (case aB => first | exact HBx.out | exact below_alloc HBx.out _); (case aF => exact (fun _ _ => trivial)); (case aO => first | exact HOx.out | exact Kd.R_alloc HOx.out _); (case aS => first | exact below_size HBx.out | exact below_size (below_alloc HBx.out _)); (case aL => have := HP.out.2.2; omega); intro v9 W9 ho hb hgr hat; have HO9 := Aside0.mk ho; have HB9 := Aside0.mk hb; clear ho hb hgr hat HTx HOx HBx t0 t1)
                  go_roundg k1
                  case measure => have := HK.out; omega
                  case rel => exact ⟨i + 1, out ++ [⟨kd, tx⟩], (by first | rfl | (simp; done) | (simp [*]; done)), HH, ⟨by have := HK.out; omega⟩, HO9, HB9⟩
            · have h4b : (kd == 4) = false := beq_eq_false_iff_ne.2 h4
              rw [if_neg (by rw [h4b]; decide)] at hd1
              obtain rfl : false = d1 := Option.some.inj hd1
              rw [if_neg Bool.false_ne_true] at H
              have HTx := Aside0.mk (blk_new wr (.cells #[.int .i64 kd, .string tx] 33))
              have HOx := Aside0.mk (Kd.R_alloc HO.out (.cells #[.int .i64 kd, .string tx] 33))
              have HBx := Aside0.mk (below_alloc HB.out (.cells #[.int .i64 kd, .string tx] 33))
              clear hd1 h4
              by_cases hk1 : kind = 1
              · have hk2 : (kind == 1) = true := beq_iff_eq.2 hk1
                rw [if_pos hk2] at H
                have HK1 := Aside0.mk hk1
                clear hk1
                split at H
                case isFalse => cases H
                rename_i hwl
                obtain ⟨ad8, cs8, e8, _, hK8, hc8⟩ := Kd.C_get (Kd.C_below HC8.out HBx.out) false i HP.out.1 hwl
                cases e8
                have hcs8 : cs8 = [.bool (rdOf false wo i)] := hK8
                have hc9 : (wr.alloc (.cells #[.int .i64 kd, .string tx] 33)).cell? (ad8.add (i.toNat * 1 + 0)) = some (.bool (rdOf false wo i)) := hc8 0 _ (by rw [hcs8]; rfl)
                rw [Nat.mul_one, Nat.add_zero] at hc9
                have hwl1 := eq_true hwl
                have pp := eq_true HP.out.1
                clear hcs8 hc8 hK8 hwl
                generalize rdOf false wo i = bb at *
                cases bb with
                | true =>
                  rw [if_pos rfl] at H
                  have HH := Aside0.mk H
                  clear H
                  have hw1 := HW.out
                  go_wp2_with fail
                  go_roundg k1
                  case measure => have := HK.out; omega
                  case rel => exact ⟨i + 1, out, (by first | rfl | (simp; done) | (simp [*]; done)), HH, ⟨by have := HK.out; omega⟩, HOx, HBx⟩
                | false =>
                  rw [if_neg Bool.false_ne_true] at H
                  have HH := Aside0.mk H
                  clear H
                  have t0 := blk_cell HTx.out 0
                  have t1 := blk_cell HTx.out 1
                  have hw1 := HW.out
                  go_wp2_with (at_builtin; refine Kd.R_append k33 (w0 := W1) W1.heap.size rfl (.tmp 27) (.tmp 29) 27 33 (.agg #[(.int .i64 0), (.string ⟨#[]⟩)]) 24 rfl Try.underlying27 info33 rfl (by decide) (by omega) u7 out (⟨kd, tx⟩ : S33) [.int .i64 kd, .string tx] (fun _ => True) (fun _ => False) rfl (by first | (go_simp; done) | (go_simp; rfl)) ?aP (fun _ hk => hk.elim) ?aF ?aO ?aB ?aS ?aL ?_; (case aP => exact k33_mkM _ _ _ (⟨kd, tx⟩ : S33)); (case aB => first | exact HBx.out | exact below_alloc HBx.out _); (case aF => exact (fun _ _ => trivial)); (case aO => first | exact HOx.out | exact Kd.R_alloc HOx.out _); (case aS => first | exact below_size HBx.out | exact below_size (below_alloc HBx.out _)); (case aL => have := HP.out.2.2; omega); intro v9 W9 ho hb hgr hat; have HO9 := Aside0.mk ho; have HB9 := Aside0.mk hb; clear ho hb hgr hat HTx HOx HBx t0 t1)
                  go_roundg k1
                  case measure => have := HK.out; omega
                  case rel => exact ⟨i + 1, out ++ [⟨kd, tx⟩], (by first | rfl | (simp; done) | (simp [*]; done)), HH, ⟨by have := HK.out; omega⟩, HO9, HB9⟩
              · have hk2 : (kind == 1) = false := beq_eq_false_iff_ne.2 hk1
                rw [if_neg (by rw [hk2]; decide)] at H
                clear hk1
                have HH := Aside0.mk H
                clear H
                have t0 := blk_cell HTx.out 0
                have t1 := blk_cell HTx.out 1
                have hw1 := HW.out
                go_wp2_with (at_builtin; refine Kd.R_append k33 (w0 := W1) W1.heap.size rfl (.tmp 27) (.tmp 29) 27 33 (.agg #[(.int .i64 0), (.string ⟨#[]⟩)]) 24 rfl Try.underlying27 info33 rfl (by decide) (by omega) u7 out (⟨kd, tx⟩ : S33) [.int .i64 kd, .string tx] (fun _ => True) (fun _ => False) rfl (by first | (go_simp; done) | (go_simp; rfl)) ?aP (fun _ hk => hk.elim) ?aF ?aO ?aB ?aS ?aL ?_; (case aP => exact k33_mkM _ _ _ (⟨kd, tx⟩ : S33)); (case aB => first | exact HBx.out | exact below_alloc HBx.out _); (case aF => exact (fun _ _ => trivial)); (case aO => first | exact HOx.out | exact Kd.R_alloc HOx.out _); (case aS => first | exact below_size HBx.out | exact below_size (below_alloc HBx.out _)); (case aL => have := HP.out.2.2; omega); intro v9 W9 ho hb hgr hat; have HO9 := Aside0.mk ho; have HB9 := Aside0.mk hb; clear ho hb hgr hat HTx HOx HBx t0 t1)
                go_roundg k1
                case measure => have := HK.out; omega
                case rel => exact ⟨i + 1, out ++ [⟨kd, tx⟩], (by first | rfl | (simp; done) | (simp [*]; done)), HH, ⟨by have := HK.out; omega⟩, HO9, HB9⟩
          · rw [if_neg c2] at H; cases H
        · rw [if_neg c1] at H
          have c1b := decide_eq_false c1
          clear c1
          cases H
          obtain ⟨A7, c7, rfl⟩ := Kd.R_slice HO.out
          go_wp2_with fail
          have hKD := (HB.out.block D (Array.getElem?_eq_some_iff.1 HD1.out).1).trans HD1.out
          refine ⟨by simp, .inl ⟨_, _, rfl, run_takeDeferred hKD, ?_⟩⟩
          refine ⟨_, results_tmp rfl _ _ _, _, rfl, ?_, ?_⟩
          · exact Kd.R_lower (Kd.R_mono (Kd.R_step (Kd.R_bound HO.out) (fun q hq hlt => (grownBy_putObj' _ D _).block q hlt (fun e => by cases e; have h1 := hq.2.1; have h2 := (Array.getElem?_eq_some_iff.1 HD1.out).1; omega))) (fun _ _ => trivial)) (below_size HBw.out)
          · exact (below_weaken HBw.out (below_size HBw.out) HB.out).trans (belowK_b (w := w) (Nat.le_refl _) _ D _ _ (by have := HDl.out; omega) hKD rfl rfl)
  case stop =>
    rintro D c pre W _ _ h _
    exact h.elim
end

/-! ### asset_plain: function 14 -/
def asset_plain.l0 : Nat → List (S33) → List (S72) → Int → Int → Option ((List (S33)))
  | 0, _, _, _, _ => none
  | k + 1, x3, x6, x7, x8 => if x8 < x7 then (if 0 ≤ x8 then (if x8 < (x6.length : Int) then (if x3.length < 5864062014805 then (asset_plain.l0 k (x3 ++ [(⟨(rd_T72 x6 x8).f0.f0, (rd_T72 x6 x8).f0.f1⟩ : S33)]) x6 x7 (wrap64 (x8 + 1))) else (none)) else (none)) else (none)) else (some x3)
def asset_plain.f (k : Nat) (l0 : List (S72)) : Option ((List (S33))) := asset_plain.l0 k ([] : List (S33)) l0 (l0.length : Int) 0
theorem asset_plain.mono_l : ∀ k, (∀ y0 y1 y2 y3, LeO (asset_plain.l0 k y0 y1 y2 y3) (asset_plain.l0 (k + 1) y0 y1 y2 y3))
  | 0 => fun _ _ _ _ r h => by simp [asset_plain.l0] at h
  | k + 1 => by
    have ih0 := asset_plain.mono_l k
    · intro y0 y1 y2 y3
      unfold asset_plain.l0
      repeat' first
      | (with_reducible exact ih0 _ _ _ _)
      | (with_reducible exact LeO.refl _)
      | (with_reducible exact LeO.none _)
      | (with_reducible refine LeO.ite ?_ ?_)
      | (with_reducible refine LeO.bind ?_ (fun _ => ?_))
      | exact ih0 _ _ _ _
      | exact LeO.none _
      | refine LeO.ite ?_ ?_
      | refine LeO.bind ?_ (fun _ => ?_)
theorem asset_plain.mono : ∀ a0 k, LeO (asset_plain.f k a0) (asset_plain.f (k + 1) a0) := by
  intro a0 k
  have ih0 := asset_plain.mono_l k
  unfold asset_plain.f
  repeat' first
      | (with_reducible exact ih0 _ _ _ _)
      | (with_reducible exact LeO.refl _)
      | (with_reducible exact LeO.none _)
      | (with_reducible refine LeO.ite ?_ ?_)
      | (with_reducible refine LeO.bind ?_ (fun _ => ?_))
      | exact ih0 _ _ _ _
      | exact LeO.none _
      | refine LeO.ite ?_ ?_
      | refine LeO.bind ?_ (fun _ => ?_)
set_option maxHeartbeats 8000000 in
set_option maxRecDepth 100000 in
theorem asset_plain.calls (k : Nat) (A0 : Option Addr) (c0 : Nat) (l0 : List (S72)) (r : List (S33)) (w : World) (hr0 : Kd.C k72 w A0 l0.length l0) (hc0 : l0.length ≤ c0) (h : asset_plain.f k l0 = some r) :
    Calls Try.prog 14 #[.slice A0 l0.length c0] w fun e w' => ∃ v0_ : Value, e = .returned (v0_) ∧ Kd.R k33 33 w' w.heap.size (fun _ => True) v0_ r ∧ Below w.heap.size w w' := by
  have hu72 := Try.underlying72
  have hu33 := Try.underlying33
  have HR0 := Aside0.mk hr0
  have HC0 := Aside0.mk hc0
  clear hr0 hc0
  have HB := Aside0.mk (Below.refl w.heap.size w)
  have H : (asset_plain.l0 k ([] : List (S33)) l0 (l0.length : Int) 0) = some r := h
  clear h
  have H' := Aside0.mk H
  clear H
  go_enter Try.func14, Try.ntmps14
  go_wp2
  go_loopg [3, 8] k (fun kq v3 v8 w' => ∃ (x3_1 : List (S33)) (x8_1 : Int), v8 = .int .i64 x8_1 ∧ Aside0 (asset_plain.l0 kq x3_1 l0 (l0.length : Int) x8_1 = some r) ∧ Aside0 (kq ≤ k) ∧ Aside0 (Kd.R k33 33 w' w.heap.size (fun _ => True) v3 x3_1) ∧ Aside0 (Below w.heap.size w w'))
  case atStart => exact ⟨(([] : List (S33))), (0), (by first | rfl | (simp; done) | (simp [*]; done)), H', ⟨Nat.le_refl _⟩, ⟨by first | exact Kd.R_nil _ _ _ _ _ | exact Kd.N_nil _ _ _ _ _ | exact Kd.V_nil _ _ _ _ _ | exact Kd.Q_nil _ _ _ _ _ | exact Kd.S_nil _ _ _ _ _⟩, ⟨by repeat (first | (with_reducible first | exact HB.out | apply below_alloc | apply pw_below_drewN | apply below_drew1) | exact HB.out)⟩⟩
  case round =>
    clear H'
    try clear c1
    obtain ⟨x3_1, x8_1, rfl, HA, HK1, HO_3, HB⟩ := hrel
    cases gk with
    | zero => exact absurd HA.out (by simp [asset_plain.l0])
    | succ k1 =>
      have H := HA.out
      clear HA
      simp only [asset_plain.l0] at H
      by_cases c2 : x8_1 < (l0.length : Int)
      · rw [if_pos c2] at H
        have c2b0 : decide (x8_1 < (l0.length : Int)) = true := decide_eq_true c2
        clear c2
        by_cases c3 : 0 ≤ x8_1
        · rw [if_pos c3] at H
          have c3b0 : decide (0 ≤ x8_1) = true := decide_eq_true c3
          clear c3
          by_cases c4 : x8_1 < (l0.length : Int)
          · rw [if_pos c4] at H
            have c4b0 : decide (x8_1 < (l0.length : Int)) = true := decide_eq_true c4
            clear c4
            by_cases c5 : x3_1.length < 5864062014805
            · rw [if_pos c5] at H
              have LMc5 := Aside0.mk c5
              clear c5
              obtain ⟨y146, hy146⟩ : ∃ y_ : List (S33), y_ = (x3_1 ++ [(⟨(rd_T72 l0 x8_1).f0.f0, (rd_T72 l0 x8_1).f0.f1⟩ : S33)]) := ⟨_, rfl⟩
              replace H : (asset_plain.l0 k1 y146 l0 (l0.length : Int) (wrap64 (x8_1 + 1))) = some r := by first | (rw [hy146]; with_reducible exact H) | (have H2_ := (Option.bind_some _ _).symm.trans H; rw [hy146]; with_reducible exact H2_) | (have H2_ := (Option.bind_some _ _).symm.trans H; with_reducible exact H2_) | with_reducible exact H | (rw [hy146]; exact H) | exact H
              have Ny146 := Aside0.mk hy146
              clear hy146
              have H' := Aside0.mk H
              clear H
              have p144 : 0 ≤ (x8_1 : Int) := of_decide_eq_true (by first | (with_reducible assumption) | assumption)
              have q144 : x8_1 < (l0.length : Int) := of_decide_eq_true (by first | (with_reducible assumption) | assumption)
              obtain ⟨ad144, e144, hx144_0, hx144_1, hx144_2, hx144_3⟩ := at_T72 HR0.out x8_1 p144 q144
              cases e144
              replace hx144_0 := (HB.out.cell (World.block_lt_of_cell? w _ hx144_0)).trans hx144_0
              replace hx144_1 := (HB.out.cell (World.block_lt_of_cell? w _ hx144_1)).trans hx144_1
              replace hx144_2 := (HB.out.cell (World.block_lt_of_cell? w _ hx144_2)).trans hx144_2
              replace hx144_3 := (HB.out.cell (World.block_lt_of_cell? w _ hx144_3)).trans hx144_3
              replace p144 := eq_true p144
              replace q144 := eq_true q144
              go_wp2_with (first | ((with_reducible refine gate_dst (N := 5) rfl ?_); refine box_event ?hg (N := 5) ?hd (cs := #[.int .i64 0, .string (⟨#[]⟩ : ByteArray), .int .i64 0, .int .i64 0]) (t := 72) ?hr ?_; (case hd => rfl); (case hg => rfl); (case hr => first | (go_simp; done) | (go_simp; rfl)); intro gb145 hg w6 hbox hb; have n0_ := Aside0.mk (Kd.R_below (by (with_reducible repeat (first | apply Kd.R_alloc | apply Kd.R_drewN | apply Kd.R_drew)); exact HO_3.out) hb); have n1_ := Aside0.mk (below_step (by repeat (first | (with_reducible first | exact HB.out | apply below_alloc | apply pw_below_drewN | apply below_drew1) | exact HB.out)) hb); have n2_ := Aside0.mk (hbox); have n3_ := Aside0.mk ((by rw [hg]; exact (below_size (by repeat (first | (with_reducible first | exact HB.out | apply below_alloc | apply pw_below_drewN | apply below_drew1) | exact HB.out))) : w.heap.size ≤ gb145)); have n4_ := Aside0.mk ((by rw [hg]; exact (below_size (by repeat (first | (with_reducible first | exact HB.out | apply below_alloc | apply pw_below_drewN | apply below_drew1) | exact HB.out))) : w.heap.size ≤ gb145)); clear HO_3; clear HB; have HO_3 := n0_; have HB := n1_; have BK145 := n2_; have GW145 := n3_; have GE145 := n4_; clear n0_ n1_ n2_ n3_ n4_; clear hb hbox hg; have hcz7_0 : w6.cell? ⟨gb145, 0, none⟩ = some (.int .i64 0) := (blk_cell BK145.out 0).trans rfl; have hcz7_1 : w6.cell? ⟨gb145, 1, none⟩ = some (.string (⟨#[]⟩ : ByteArray)) := (blk_cell BK145.out 1).trans rfl; have hcz7_2 : w6.cell? ⟨gb145, 2, none⟩ = some (.int .i64 0) := (blk_cell BK145.out 2).trans rfl; have hcz7_3 : w6.cell? ⟨gb145, 3, none⟩ = some (.int .i64 0) := (blk_cell BK145.out 3).trans rfl; have hfz7_0 := blk_frozen BK145.out 0; have hfz7_1 := blk_frozen BK145.out 1; have hfz7_2 := blk_frozen BK145.out 2; have hfz7_3 := blk_frozen BK145.out 3) | ((with_reducible refine gate_builtin (b := .append) (xs := #[.tmp 12, .tmp 15]) rfl ?_); at_builtin; refine Kd.R_append k33 (w0 := w) w.heap.size rfl (.tmp 12) (.tmp 15) 27 33 (.agg #[(.int .i64 0), (.string ⟨#[]⟩)]) 24 rfl Try.underlying27 info33 rfl (by decide) (by omega) u3 x3_1 (⟨(rd_T72 l0 x8_1).f0.f0, (rd_T72 l0 x8_1).f0.f1⟩ : S33) [.int .i64 ((rd_T72 l0 x8_1).f0.f0), .string ((rd_T72 l0 x8_1).f0.f1)] (fun _ => True) (fun _ => False) rfl (by first | (go_simp; done) | (go_simp; rfl)) ?aP (fun _ hk => hk.elim) ?aF ?aO ?aB ?aS ?aL ?_; (case aP => exact k33_mkM _ _ _ (⟨(rd_T72 l0 x8_1).f0.f0, (rd_T72 l0 x8_1).f0.f1⟩ : S33)); (case aB => exact (by repeat (first | (with_reducible first | exact HB.out | apply below_alloc | apply pw_below_drewN | apply below_drew1 | refine below_set ?_ GE145.out) | exact HB.out))); (case aF => exact (fun _ _ => trivial)); (case aO => exact (by (with_reducible repeat (first | apply Kd.R_alloc | apply Kd.R_drewN | apply Kd.R_drew)); exact Kd.R_mono (Kd.R_far (p := ⟨gb145, 3, none⟩) (Kd.R_far (p := ⟨gb145, 2, none⟩) (Kd.R_far (p := ⟨gb145, 1, none⟩) (Kd.R_far (p := ⟨gb145, 0, none⟩) (Kd.R_types HO_3.out BK145.out (by decide)) (fun _ hk => hk.2) (.int .i64 ((rd_T72 l0 x8_1).f0.f0))) (fun _ hk => hk.2) (.string ((rd_T72 l0 x8_1).f0.f1))) (fun _ hk => hk.2) (.int .i64 ((rd_T72 l0 x8_1).f1))) (fun _ hk => hk.2) (.int .i64 ((rd_T72 l0 x8_1).f2))) (fun _ hk => trivial))); (case aS => exact (below_size (by repeat (first | (with_reducible first | exact HB.out | apply below_alloc | apply pw_below_drewN | apply below_drew1 | refine below_set ?_ GE145.out) | exact HB.out)))); (case aL => have := LMc5.out; omega); intro v147 w8 ho hb hg hat; rw [← Ny146.out] at ho; have n0_ := Aside0.mk (blk_grown (g := gb145) (o := .cells #[.int .i64 ((rd_T72 l0 x8_1).f0.f0), .string ((rd_T72 l0 x8_1).f0.f1), .int .i64 ((rd_T72 l0 x8_1).f1), .int .i64 ((rd_T72 l0 x8_1).f2)] 72 (0, 0)) (by (with_reducible repeat (first | refine blk_drewN ?_ _ | refine blk_drew ?_ | refine blk_alloc ?_ _)); refine blk_put (cs := #[.int .i64 ((rd_T72 l0 x8_1).f0.f0), .string ((rd_T72 l0 x8_1).f0.f1), .int .i64 ((rd_T72 l0 x8_1).f1), .int .i64 0]) ?_ 3 _ rfl; (with_reducible repeat (first | refine blk_drewN ?_ _ | refine blk_drew ?_ | refine blk_alloc ?_ _)); refine blk_put (cs := #[.int .i64 ((rd_T72 l0 x8_1).f0.f0), .string ((rd_T72 l0 x8_1).f0.f1), .int .i64 0, .int .i64 0]) ?_ 2 _ rfl; (with_reducible repeat (first | refine blk_drewN ?_ _ | refine blk_drew ?_ | refine blk_alloc ?_ _)); refine blk_put (cs := #[.int .i64 ((rd_T72 l0 x8_1).f0.f0), .string (⟨#[]⟩ : ByteArray), .int .i64 0, .int .i64 0]) ?_ 1 _ rfl; (with_reducible repeat (first | refine blk_drewN ?_ _ | refine blk_drew ?_ | refine blk_alloc ?_ _)); refine blk_put (cs := #[.int .i64 0, .string (⟨#[]⟩ : ByteArray), .int .i64 0, .int .i64 0]) ?_ 0 _ rfl; (with_reducible repeat (first | refine blk_drewN ?_ _ | refine blk_drew ?_ | refine blk_alloc ?_ _)); exact BK145.out) hg (Kd.R_ne HO_3.out BK145.out (by decide))); have n1_ := Aside0.mk (hb); have n2_ := Aside0.mk (ho); clear BK145; clear HB; clear HO_3; have BK145 := n0_; have HB := n1_; have HO148 := n2_; clear n0_ n1_ n2_; clear ho hb hg hat))
              go_roundg k1
              case measure => have := HK1.out; omega
              case rel => exact ⟨(y146), (wrap64 (x8_1 + 1)), (by first | rfl | (simp; done) | (simp [*]; done)), H', ⟨by have := HK1.out; omega⟩, ⟨by (with_reducible repeat (first | apply Kd.R_alloc | apply Kd.R_drewN | apply Kd.R_drew)); exact HO148.out⟩, ⟨by repeat (first | (with_reducible first | exact HB.out | apply below_alloc | apply pw_below_drewN | apply below_drew1 | refine below_set ?_ GE145.out) | exact HB.out)⟩⟩
            · rw [if_neg c5] at H
              exact absurd H (by simp)
          · rw [if_neg c4] at H
            exact absurd H (by simp)
        · rw [if_neg c3] at H
          exact absurd H (by simp)
      · rw [if_neg c2] at H
        have c2b0 : decide (x8_1 < (l0.length : Int)) = false := decide_eq_false c2
        clear c2
        obtain rfl := Option.some.inj H
        go_wp2
        go_ret
        exact ⟨_, by first | rfl | (simp [errW_none, errW_some] <;> rfl) | (simp [*, errW_none, errW_some] <;> rfl), by (with_reducible repeat (first | apply Kd.R_alloc | apply Kd.R_drewN | apply Kd.R_drew)); exact HO_3.out, by repeat (first | (with_reducible first | exact HB.out | apply below_alloc | apply pw_below_drewN | apply below_drew1) | exact HB.out)⟩

/-! ### asset_Minify: function 5 -/
def asset_Minify.j0 : Nat → Int → ByteArray → Bool → Option (ByteArray × Int × Int)
  | 0, _, _, _ => none
  | k + 1, x0, x1, x18 => if x18 = true then (some ((⟨#[]⟩ : ByteArray), 0, 10)) else ((asset_divided.f k x1 (x0 == 2)).bind fun bt149 => (if bt149.2.2 = 0 then ((asset_plain.f k bt149.1).bind fun t154 => ((asset_smaller.f k x0 t154).bind fun t157 => ((asset_joined.f t157).bind fun t160 => (some (t160, 0, 0))))) else (some ((⟨#[]⟩ : ByteArray), bt149.2.1, bt149.2.2))))
def asset_Minify.f (k : Nat) (a0 : Int) (a1 : ByteArray) : Option (ByteArray × Int × Int) := if (a1.size : Int) > 20000 then (some ((⟨#[]⟩ : ByteArray), 0, 4)) else (if a0 = 1 then (asset_Minify.j0 k a0 a1 false) else (asset_Minify.j0 k a0 a1 (a0 != 2)))
theorem asset_Minify.mono_l : ∀ k, (∀ y0 y1 y2, LeO (asset_Minify.j0 k y0 y1 y2) (asset_Minify.j0 (k + 1) y0 y1 y2))
  | 0 => fun _ _ _ r h => by simp [asset_Minify.j0] at h
  | k + 1 => by
    have ih0 := asset_Minify.mono_l k
    · intro y0 y1 y2
      unfold asset_Minify.j0
      repeat' first
      | (with_reducible exact ih0 _ _ _)
      | (with_reducible exact asset_divided.mono _ _ _)
      | (with_reducible exact asset_plain.mono _ _)
      | (with_reducible exact asset_smaller.mono _ _ _)
      | (with_reducible exact LeO.refl _)
      | (with_reducible exact LeO.none _)
      | (with_reducible refine LeO.ite ?_ ?_)
      | (with_reducible refine LeO.bind ?_ (fun _ => ?_))
      | exact ih0 _ _ _
      | exact asset_divided.mono _ _ _
      | exact asset_plain.mono _ _
      | exact asset_smaller.mono _ _ _
      | exact LeO.none _
      | refine LeO.ite ?_ ?_
      | refine LeO.bind ?_ (fun _ => ?_)
theorem asset_Minify.mono : ∀ a0 a1 k, LeO (asset_Minify.f k a0 a1) (asset_Minify.f (k + 1) a0 a1) := by
  intro a0 a1 k
  have ih0 := asset_Minify.mono_l k
  unfold asset_Minify.f
  repeat' first
      | (with_reducible exact ih0 _ _ _)
      | (with_reducible exact asset_divided.mono _ _ _)
      | (with_reducible exact asset_plain.mono _ _)
      | (with_reducible exact asset_smaller.mono _ _ _)
      | (with_reducible exact LeO.refl _)
      | (with_reducible exact LeO.none _)
      | (with_reducible refine LeO.ite ?_ ?_)
      | (with_reducible refine LeO.bind ?_ (fun _ => ?_))
      | exact ih0 _ _ _
      | exact asset_divided.mono _ _ _
      | exact asset_plain.mono _ _
      | exact asset_smaller.mono _ _ _
      | exact LeO.none _
      | refine LeO.ite ?_ ?_
      | refine LeO.bind ?_ (fun _ => ?_)
set_option maxHeartbeats 8000000 in
set_option maxRecDepth 100000 in
theorem asset_Minify.calls (k : Nat) (a0 : Int) (a1 : ByteArray) (r1 : ByteArray) (r2 : Int) (r3 : Int) (w : World) (h : asset_Minify.f k a0 a1 = some (r1, r2, r3)) (hG : Gh.G w := by repeat' (first | with_reducible assumption | with_reducible apply Gh.G.drewN | with_reducible apply Gh.G.drew | with_reducible apply Gh.G.alloc | (with_reducible refine Gh.G.set ?_ (by assumption) (by assumption)) | exact Gh.G.aside (by assumption) (by assumption))) :
    Calls Try.prog 5 #[.int .i64 a0, .string a1] w fun e w' => e = .returned (.tuple #[.string r1, .int .i64 r2, .int .i64 r3]) ∧ Below w.heap.size w w' := by
  have HB := Aside0.mk (Below.refl w.heap.size w)
  have H : (if (a1.size : Int) > 20000 then (some ((⟨#[]⟩ : ByteArray), 0, 4)) else (if a0 = 1 then (asset_Minify.j0 k a0 a1 false) else (asset_Minify.j0 k a0 a1 (a0 != 2)))) = some (r1, r2, r3) := h
  clear h
  by_cases c3 : (a1.size : Int) > 20000
  · rw [if_pos c3] at H
    have c3b0 : decide (20000 < (a1.size : Int)) = true := decide_eq_true c3
    have c3b1 : decide (20000 < a1.size) = true := decide_eq_true (by omega)
    clear c3
    simp only [Option.some.injEq, Prod.mk.injEq] at H
    obtain ⟨rfl, rfl, rfl⟩ := H
    go_enter Try.func5, Try.ntmps5
    go_wp2
    go_ret3
    exact ⟨by first | rfl | (simp [errW_none, errW_some] <;> rfl) | (simp [*, errW_none, errW_some] <;> rfl), by repeat (first | (with_reducible first | exact HB.out | apply below_alloc | apply pw_below_drewN | apply below_drew1) | exact HB.out)⟩
  · rw [if_neg c3] at H
    have c3b0 : decide (20000 < (a1.size : Int)) = false := decide_eq_false c3
    have c3b1 : decide (20000 < a1.size) = false := decide_eq_false (by omega)
    clear c3
    have HC4 := Aside0.mk H
    clear H
    go_enter Try.func5, Try.ntmps5
    go_upto_region 3 with (fail)
    go_cut [18] (fun v18 wc => ∃ (kq : Nat) (x18_3 : Bool), v18 = .bool x18_3 ∧ Aside0 (asset_Minify.j0 kq a0 a1 x18_3 = some (r1, r2, r3)) ∧ Aside0 (kq ≤ k) ∧ Aside0 (Below w.heap.size w wc))
    case first =>
      have H := HC4.out
      clear HC4
      by_cases c5 : a0 = 1
      · rw [if_pos c5] at H
        have c5b0 : (a0 == 1) = true := beq_iff_eq.mpr c5
        have c5b1 : (a0 != 1) = false := bne_eq_false_iff_eq.mpr c5
        clear c5
        (first | rw [c5b0] | (simp only [i64_w, i32_w]; rw [c5b0]) | skip)
        have H' := Aside0.mk H
        clear H
        go_wp2
        go_meet
        case rel => exact ⟨_, (false), (by first | rfl | (simp; done) | (simp [*]; done)), H', ⟨by first | omega | exact Nat.le_refl _⟩, ⟨by repeat (first | (with_reducible first | exact HB.out | apply below_alloc | apply pw_below_drewN | apply below_drew1) | exact HB.out)⟩⟩
      · rw [if_neg c5] at H
        have c5b0 : (a0 == 1) = false := beq_eq_false_iff_ne.mpr c5
        have c5b1 : (a0 != 1) = true := bne_iff_ne.mpr c5
        (first | rw [c5b0] | (simp only [i64_w, i32_w]; rw [c5b0]) | skip)
        have H' := Aside0.mk H
        clear H
        go_wp2
        go_meet
        case rel => exact ⟨_, ((a0 != 2)), (by first | rfl | (simp; done) | (simp [*]; done)), H', ⟨by first | omega | exact Nat.le_refl _⟩, ⟨by repeat (first | (with_reducible first | exact HB.out | apply below_alloc | apply pw_below_drewN | apply below_drew1) | exact HB.out)⟩⟩
    case rest =>
      clear HC4
      try clear p2
      try clear c3
      try clear c3b0
      try clear c3b1
      try clear c5
      try clear c5b0
      try clear c5b1
      obtain ⟨kq, x18_3, rfl, HA, HJ3, HB⟩ := hcut
      cases kq with
      | zero => exact absurd HA.out (by simp [asset_Minify.j0])
      | succ kj3 =>
        have H := HA.out
        clear HA
        simp only [asset_Minify.j0] at H
        by_cases c6 : x18_3 = true
        · subst c6
          have H1 : (some ((⟨#[]⟩ : ByteArray), 0, 10)) = some (r1, r2, r3) := by rw [if_pos rfl] at H; exact H
          clear H
          have H := H1
          clear H1
          simp only [Option.some.injEq, Prod.mk.injEq] at H
          obtain ⟨rfl, rfl, rfl⟩ := H
          go_wp2
          go_ret3
          exact ⟨by first | rfl | (simp [errW_none, errW_some] <;> rfl) | (simp [*, errW_none, errW_some] <;> rfl), by repeat (first | (with_reducible first | exact HB.out | apply below_alloc | apply pw_below_drewN | apply below_drew1) | exact HB.out)⟩
        · replace c6 := Bool.eq_false_iff.mpr c6
          subst c6
          have H1 : ((asset_divided.f kj3 a1 (a0 == 2)).bind fun bt149 => (if bt149.2.2 = 0 then ((asset_plain.f kj3 bt149.1).bind fun t154 => ((asset_smaller.f kj3 a0 t154).bind fun t157 => ((asset_joined.f t157).bind fun t160 => (some (t160, 0, 0))))) else (some ((⟨#[]⟩ : ByteArray), bt149.2.1, bt149.2.2)))) = some (r1, r2, r3) := by rw [if_neg (show ¬ (false = true) by decide)] at H; exact H
          clear H
          have H := H1
          clear H1
          replace H := Option.bind_eq_some_iff.mp H
          obtain ⟨⟨t149, t150, t151⟩, A70, H⟩ := H
          replace H : (if t151 = 0 then ((asset_plain.f kj3 t149).bind fun t154 => ((asset_smaller.f kj3 a0 t154).bind fun t157 => ((asset_joined.f t157).bind fun t160 => (some (t160, 0, 0))))) else (some ((⟨#[]⟩ : ByteArray), t150, t151))) = some (r1, r2, r3) := H
          have A7 := Aside0.mk A70
          clear A70
          by_cases c8 : t151 = 0
          · rw [if_pos c8] at H
            have c8b0 : (t151 == 0) = true := beq_iff_eq.mpr c8
            have c8b1 : (t151 != 0) = false := bne_eq_false_iff_eq.mpr c8
            clear c8
            replace H := Option.bind_eq_some_iff.mp H
            obtain ⟨t154, A90, H⟩ := H
            replace H : ((asset_smaller.f kj3 a0 t154).bind fun t157 => ((asset_joined.f t157).bind fun t160 => (some (t160, 0, 0)))) = some (r1, r2, r3) := H
            have A9 := Aside0.mk A90
            clear A90
            replace H := Option.bind_eq_some_iff.mp H
            obtain ⟨t157, A100, H⟩ := H
            replace H : ((asset_joined.f t157).bind fun t160 => (some (t160, 0, 0))) = some (r1, r2, r3) := H
            have A10 := Aside0.mk A100
            clear A100
            replace H := Option.bind_eq_some_iff.mp H
            obtain ⟨t160, A110, H⟩ := H
            replace H : (some (t160, 0, 0)) = some (r1, r2, r3) := H
            have A11 := Aside0.mk A110
            clear A110
            simp only [Option.some.injEq, Prod.mk.injEq] at H
            obtain ⟨rfl, rfl, rfl⟩ := H
            go_wp2_with (first | ((with_reducible refine gate_callee (f := 11) rfl ?_); refine goesL_ (some 23) rfl rfl Try.func11 (by kernel_rfl) rfl #[.string a1, .bool (a0 == 2)] rfl (by (try simp only [List.map_toArray, List.map_cons, List.map_nil]); first | done | rfl | (simp only [List.length_drop, List.length_take]; rfl)) ?_; (with_reducible refine (asset_divided.calls kj3 a1 (a0 == 2) t149 t150 t151 _ A7.out).mono ?_); rintro e w12 ⟨v152, rfl, ho0, hb⟩; refine ⟨_, rfl, ?_⟩; have n0_ := Aside0.mk (Kd.R_lower ho0 (below_size (by repeat (first | (with_reducible first | exact HB.out | apply below_alloc | apply pw_below_drewN | apply below_drew1) | exact HB.out)))); have n1_ := Aside0.mk (below_step (by repeat (first | (with_reducible first | exact HB.out | apply below_alloc | apply pw_below_drewN | apply below_drew1) | exact HB.out)) hb); clear HB; have HO153 := n0_; have HB := n1_; clear n0_ n1_; (try clear hb); (try clear hb2); (try clear hk); (try clear hi); (try clear ho0); obtain ⟨Ao13, co13, eo13⟩ := Kd.R_slice HO153.out; subst eo13) | ((with_reducible refine gate_callee (f := 14) rfl ?_); refine goesL_ (some 33) rfl rfl Try.func14 (by kernel_rfl) rfl #[.slice Ao13 t149.length co13] rfl (by (try simp only [List.map_toArray, List.map_cons, List.map_nil]); first | done | rfl | (simp only [List.length_drop, List.length_take]; rfl)) ?_; (with_reducible refine (asset_plain.calls kj3 _ _ t149 t154 _ ?side1 ?side2 A9.out).mono ?_); (case side1 => repeat (first | exact (Kd.R_reads' HO153.out).2.2 | (with_reducible refine Kd.C_alloc ?_ _) | (with_reducible refine Kd.C_drewN ?_ _) | (with_reducible refine Kd.C_drew ?_))); (case side2 => exact (Kd.R_reads' HO153.out).2.1); rintro e w14 ⟨v155, rfl, ho0, hb⟩; refine ⟨_, rfl, ?_⟩; have n0_ := Aside0.mk (Kd.R_below (by (with_reducible repeat (first | apply Kd.R_alloc | apply Kd.R_drewN | apply Kd.R_drew)); exact HO153.out) hb); have n1_ := Aside0.mk (Kd.R_lower ho0 (below_size (by repeat (first | (with_reducible first | exact HB.out | apply below_alloc | apply pw_below_drewN | apply below_drew1) | exact HB.out)))); have n2_ := Aside0.mk (below_step (by repeat (first | (with_reducible first | exact HB.out | apply below_alloc | apply pw_below_drewN | apply below_drew1) | exact HB.out)) hb); clear HO153; clear HB; have HO153 := n0_; have HO156 := n1_; have HB := n2_; clear n0_ n1_ n2_; (try clear hb); (try clear hb2); (try clear hk); (try clear hi); (try clear ho0); obtain ⟨Ao15, co15, eo15⟩ := Kd.R_slice HO156.out; subst eo15) | ((with_reducible refine gate_callee (f := 13) rfl ?_); refine goesL_ (some 34) rfl rfl Try.func13 (by kernel_rfl) rfl #[.int .i64 a0, .slice Ao15 t154.length co15] rfl (by (try simp only [List.map_toArray, List.map_cons, List.map_nil]); first | done | rfl | (simp only [List.length_drop, List.length_take]; rfl)) ?_; (with_reducible refine (asset_smaller.calls kj3 a0 _ _ t154 t157 _ ?side1 ?side2 A10.out).mono ?_); (case side1 => repeat (first | exact (Kd.R_reads' HO156.out).2.2 | (with_reducible refine Kd.C_alloc ?_ _) | (with_reducible refine Kd.C_drewN ?_ _) | (with_reducible refine Kd.C_drew ?_))); (case side2 => exact (Kd.R_reads' HO156.out).2.1); rintro e w16 ⟨v158, rfl, ho0, hb⟩; refine ⟨_, rfl, ?_⟩; have n0_ := Aside0.mk (Kd.R_below (by (with_reducible repeat (first | apply Kd.R_alloc | apply Kd.R_drewN | apply Kd.R_drew)); exact HO153.out) hb); have n1_ := Aside0.mk (Kd.R_elder' (by (with_reducible repeat (first | apply Kd.R_alloc | apply Kd.R_drewN | apply Kd.R_drew)); exact HO156.out) (Kd.R_base ho0) hb); have n2_ := Aside0.mk (Kd.R_lower (Kd.R_new' ho0 (Kd.R_lt (by (with_reducible repeat (first | apply Kd.R_alloc | apply Kd.R_drewN | apply Kd.R_drew)); exact HO156.out))) (below_size (by repeat (first | (with_reducible first | exact HB.out | apply below_alloc | apply pw_below_drewN | apply below_drew1) | exact HB.out)))); have n3_ := Aside0.mk (below_step (by repeat (first | (with_reducible first | exact HB.out | apply below_alloc | apply pw_below_drewN | apply below_drew1) | exact HB.out)) hb); clear HO153; clear HO156; clear HB; have HO153 := n0_; have HO156 := n1_; have HO159 := n2_; have HB := n3_; clear n0_ n1_ n2_ n3_; (try clear hb); (try clear hb2); (try clear hk); (try clear hi); (try clear ho0); obtain ⟨Ao17, co17, eo17⟩ := Kd.R_slice HO159.out; subst eo17) | ((with_reducible refine gate_callee (f := 12) rfl ?_); refine goesL_ (some 35) rfl rfl Try.func12 (by kernel_rfl) rfl #[.slice Ao17 t157.length co17] rfl (by (try simp only [List.map_toArray, List.map_cons, List.map_nil]); first | done | rfl | (simp only [List.length_drop, List.length_take]; rfl)) ?_; (with_reducible refine (asset_joined.calls _ _ t157 t160 _ ?side1 ?side2 A11.out).mono ?_); (case side1 => repeat (first | exact (Kd.R_reads' HO159.out).2.2 | (with_reducible refine Kd.C_alloc ?_ _) | (with_reducible refine Kd.C_drewN ?_ _) | (with_reducible refine Kd.C_drew ?_))); (case side2 => exact (Kd.R_reads' HO159.out).2.1); rintro e w18 ⟨rfl, hb⟩; refine ⟨_, rfl, ?_⟩; have n0_ := Aside0.mk (Kd.R_below (by (with_reducible repeat (first | apply Kd.R_alloc | apply Kd.R_drewN | apply Kd.R_drew)); exact HO153.out) hb); have n1_ := Aside0.mk (Kd.R_below (by (with_reducible repeat (first | apply Kd.R_alloc | apply Kd.R_drewN | apply Kd.R_drew)); exact HO156.out) hb); have n2_ := Aside0.mk (Kd.R_below (by (with_reducible repeat (first | apply Kd.R_alloc | apply Kd.R_drewN | apply Kd.R_drew)); exact HO159.out) hb); have n3_ := Aside0.mk (below_step (by repeat (first | (with_reducible first | exact HB.out | apply below_alloc | apply pw_below_drewN | apply below_drew1) | exact HB.out)) hb); clear HO153; clear HO156; clear HO159; clear HB; have HO153 := n0_; have HO156 := n1_; have HO159 := n2_; have HB := n3_; clear n0_ n1_ n2_ n3_; (try clear hb); (try clear hb2); (try clear hk); (try clear hi)))
            go_ret3
            exact ⟨by first | rfl | (simp [errW_none, errW_some] <;> rfl) | (simp [*, errW_none, errW_some] <;> rfl), by repeat (first | (with_reducible first | exact HB.out | apply below_alloc | apply pw_below_drewN | apply below_drew1) | exact HB.out)⟩
          · rw [if_neg c8] at H
            have c8b0 : (t151 == 0) = false := beq_eq_false_iff_ne.mpr c8
            have c8b1 : (t151 != 0) = true := bne_iff_ne.mpr c8
            simp only [Option.some.injEq, Prod.mk.injEq] at H
            obtain ⟨rfl, rfl, rfl⟩ := H
            go_wp2_with (first | ((with_reducible refine gate_callee (f := 11) rfl ?_); refine goesL_ (some 23) rfl rfl Try.func11 (by kernel_rfl) rfl #[.string a1, .bool (a0 == 2)] rfl (by (try simp only [List.map_toArray, List.map_cons, List.map_nil]); first | done | rfl | (simp only [List.length_drop, List.length_take]; rfl)) ?_; (with_reducible refine (asset_divided.calls kj3 a1 (a0 == 2) t149 t150 t151 _ A7.out).mono ?_); rintro e w19 ⟨v152, rfl, ho0, hb⟩; refine ⟨_, rfl, ?_⟩; have n0_ := Aside0.mk (Kd.R_lower ho0 (below_size (by repeat (first | (with_reducible first | exact HB.out | apply below_alloc | apply pw_below_drewN | apply below_drew1) | exact HB.out)))); have n1_ := Aside0.mk (below_step (by repeat (first | (with_reducible first | exact HB.out | apply below_alloc | apply pw_below_drewN | apply below_drew1) | exact HB.out)) hb); clear HB; have HO153 := n0_; have HB := n1_; clear n0_ n1_; (try clear hb); (try clear hb2); (try clear hk); (try clear hi); (try clear ho0)))
            go_ret3
            exact ⟨by first | rfl | (simp [errW_none, errW_some] <;> rfl) | (simp [*, errW_none, errW_some] <;> rfl), by repeat (first | (with_reducible first | exact HB.out | apply below_alloc | apply pw_below_drewN | apply below_drew1) | exact HB.out)⟩

/-! ### asset_tokens: function 15 -/
def asset_tokens.f (k : Nat) (a0 : ByteArray) (a1 : Bool) : Option ((List (S72)) × Int × Int) := if (a0.size : Int) > 20000 then (some (([] : List (S72)), 0, 4)) else ((asset_divided.f k a0 a1).bind fun bt161 => (some (bt161.1, bt161.2.1, bt161.2.2)))
theorem asset_tokens.mono : ∀ a0 a1 k, LeO (asset_tokens.f k a0 a1) (asset_tokens.f (k + 1) a0 a1) := by
  intro a0 a1 k
  unfold asset_tokens.f
  repeat' first
      | (with_reducible exact asset_divided.mono _ _ _)
      | (with_reducible exact LeO.refl _)
      | (with_reducible exact LeO.none _)
      | (with_reducible refine LeO.ite ?_ ?_)
      | (with_reducible refine LeO.bind ?_ (fun _ => ?_))
      | exact asset_divided.mono _ _ _
      | exact LeO.none _
      | refine LeO.ite ?_ ?_
      | refine LeO.bind ?_ (fun _ => ?_)
set_option maxHeartbeats 8000000 in
set_option maxRecDepth 100000 in
theorem asset_tokens.calls (k : Nat) (a0 : ByteArray) (a1 : Bool) (r1 : List (S72)) (r2 : Int) (r3 : Int) (w : World) (h : asset_tokens.f k a0 a1 = some (r1, r2, r3)) (hG : Gh.G w := by repeat' (first | with_reducible assumption | with_reducible apply Gh.G.drewN | with_reducible apply Gh.G.drew | with_reducible apply Gh.G.alloc | (with_reducible refine Gh.G.set ?_ (by assumption) (by assumption)) | exact Gh.G.aside (by assumption) (by assumption))) :
    Calls Try.prog 15 #[.string a0, .bool a1] w fun e w' => ∃ v0_ : Value, e = .returned (.tuple #[v0_, .int .i64 r2, .int .i64 r3]) ∧ Kd.R k72 72 w' w.heap.size (fun _ => True) v0_ r1 ∧ Below w.heap.size w w' := by
  have HB := Aside0.mk (Below.refl w.heap.size w)
  have H : (if (a0.size : Int) > 20000 then (some (([] : List (S72)), 0, 4)) else ((asset_divided.f k a0 a1).bind fun bt161 => (some (bt161.1, bt161.2.1, bt161.2.2)))) = some (r1, r2, r3) := h
  clear h
  by_cases c3 : (a0.size : Int) > 20000
  · rw [if_pos c3] at H
    have c3b0 : decide (20000 < (a0.size : Int)) = true := decide_eq_true c3
    have c3b1 : decide (20000 < a0.size) = true := decide_eq_true (by omega)
    clear c3
    simp only [Option.some.injEq, Prod.mk.injEq] at H
    obtain ⟨rfl, rfl, rfl⟩ := H
    go_enter Try.func15, Try.ntmps15
    go_wp2
    go_ret3
    exact ⟨_, by first | rfl | (simp [errW_none, errW_some] <;> rfl) | (simp [*, errW_none, errW_some] <;> rfl), by first | exact Kd.R_nil _ _ _ _ _ | exact Kd.N_nil _ _ _ _ _ | exact Kd.V_nil _ _ _ _ _ | exact Kd.Q_nil _ _ _ _ _ | exact Kd.S_nil _ _ _ _ _, by repeat (first | (with_reducible first | exact HB.out | apply below_alloc | apply pw_below_drewN | apply below_drew1) | exact HB.out)⟩
  · rw [if_neg c3] at H
    have c3b0 : decide (20000 < (a0.size : Int)) = false := decide_eq_false c3
    have c3b1 : decide (20000 < a0.size) = false := decide_eq_false (by omega)
    clear c3
    replace H := Option.bind_eq_some_iff.mp H
    obtain ⟨⟨t161, t162, t163⟩, A40, H⟩ := H
    replace H : (some (t161, t162, t163)) = some (r1, r2, r3) := H
    have A4 := Aside0.mk A40
    clear A40
    simp only [Option.some.injEq, Prod.mk.injEq] at H
    obtain ⟨rfl, rfl, rfl⟩ := H
    go_enter Try.func15, Try.ntmps15
    go_wp2_with (first | ((with_reducible refine gate_callee (f := 11) rfl ?_); refine goesL_ (some 12) rfl rfl Try.func11 (by kernel_rfl) rfl #[.string a0, .bool a1] rfl (by (try simp only [List.map_toArray, List.map_cons, List.map_nil]); first | done | rfl | (simp only [List.length_drop, List.length_take]; rfl)) ?_; (with_reducible refine (asset_divided.calls k a0 a1 t161 t162 t163 _ A4.out).mono ?_); rintro e w5 ⟨v164, rfl, ho0, hb⟩; refine ⟨_, rfl, ?_⟩; have n0_ := Aside0.mk (Kd.R_lower ho0 (below_size (by repeat (first | (with_reducible first | exact HB.out | apply below_alloc | apply pw_below_drewN | apply below_drew1) | exact HB.out)))); have n1_ := Aside0.mk (below_step (by repeat (first | (with_reducible first | exact HB.out | apply below_alloc | apply pw_below_drewN | apply below_drew1) | exact HB.out)) hb); clear HB; have HO165 := n0_; have HB := n1_; clear n0_ n1_; (try clear hb); (try clear hb2); (try clear hk); (try clear hi); (try clear ho0)))
    go_ret3
    exact ⟨_, by first | rfl | (simp [errW_none, errW_some] <;> rfl) | (simp [*, errW_none, errW_some] <;> rfl), by (with_reducible repeat (first | apply Kd.R_alloc | apply Kd.R_drewN | apply Kd.R_drew)); exact HO165.out, by repeat (first | (with_reducible first | exact HB.out | apply below_alloc | apply pw_below_drewN | apply below_drew1) | exact HB.out)⟩

/-! ### asset_StyleTokens: function 6 -/
def asset_StyleTokens.f (k : Nat) (a0 : ByteArray) : Option ((List (S33)) × Int × Int) := (asset_tokens.f k a0 false).bind fun bt166 => ((asset_plain.f k bt166.1).bind fun t171 => (some (t171, bt166.2.1, bt166.2.2)))
theorem asset_StyleTokens.mono : ∀ a0 k, LeO (asset_StyleTokens.f k a0) (asset_StyleTokens.f (k + 1) a0) := by
  intro a0 k
  unfold asset_StyleTokens.f
  repeat' first
      | (with_reducible exact asset_plain.mono _ _)
      | (with_reducible exact asset_tokens.mono _ _ _)
      | (with_reducible exact LeO.refl _)
      | (with_reducible exact LeO.none _)
      | (with_reducible refine LeO.ite ?_ ?_)
      | (with_reducible refine LeO.bind ?_ (fun _ => ?_))
      | exact asset_plain.mono _ _
      | exact asset_tokens.mono _ _ _
      | exact LeO.none _
      | refine LeO.ite ?_ ?_
      | refine LeO.bind ?_ (fun _ => ?_)
set_option maxHeartbeats 8000000 in
set_option maxRecDepth 100000 in
theorem asset_StyleTokens.calls (k : Nat) (a0 : ByteArray) (r1 : List (S33)) (r2 : Int) (r3 : Int) (w : World) (h : asset_StyleTokens.f k a0 = some (r1, r2, r3)) (hG : Gh.G w := by repeat' (first | with_reducible assumption | with_reducible apply Gh.G.drewN | with_reducible apply Gh.G.drew | with_reducible apply Gh.G.alloc | (with_reducible refine Gh.G.set ?_ (by assumption) (by assumption)) | exact Gh.G.aside (by assumption) (by assumption))) :
    Calls Try.prog 6 #[.string a0] w fun e w' => ∃ v0_ : Value, e = .returned (.tuple #[v0_, .int .i64 r2, .int .i64 r3]) ∧ Kd.R k33 33 w' w.heap.size (fun _ => True) v0_ r1 ∧ Below w.heap.size w w' := by
  have HB := Aside0.mk (Below.refl w.heap.size w)
  have H : ((asset_tokens.f k a0 false).bind fun bt166 => ((asset_plain.f k bt166.1).bind fun t171 => (some (t171, bt166.2.1, bt166.2.2)))) = some (r1, r2, r3) := h
  clear h
  replace H := Option.bind_eq_some_iff.mp H
  obtain ⟨⟨t166, t167, t168⟩, A20, H⟩ := H
  replace H : ((asset_plain.f k t166).bind fun t171 => (some (t171, t167, t168))) = some (r1, r2, r3) := H
  have A2 := Aside0.mk A20
  clear A20
  replace H := Option.bind_eq_some_iff.mp H
  obtain ⟨t171, A30, H⟩ := H
  replace H : (some (t171, t167, t168)) = some (r1, r2, r3) := H
  have A3 := Aside0.mk A30
  clear A30
  simp only [Option.some.injEq, Prod.mk.injEq] at H
  obtain ⟨rfl, rfl, rfl⟩ := H
  go_enter Try.func6, Try.ntmps6
  go_wp2_with (first | ((with_reducible refine gate_callee (f := 15) rfl ?_); refine goesL_ (some 10) rfl rfl Try.func15 (by kernel_rfl) rfl #[.string a0, .bool false] rfl (by (try simp only [List.map_toArray, List.map_cons, List.map_nil]); first | done | rfl | (simp only [List.length_drop, List.length_take]; rfl)) ?_; (with_reducible refine (asset_tokens.calls k a0 false t166 t167 t168 _ A2.out).mono ?_); rintro e w4 ⟨v169, rfl, ho0, hb⟩; refine ⟨_, rfl, ?_⟩; have n0_ := Aside0.mk (Kd.R_lower ho0 (below_size (by repeat (first | (with_reducible first | exact HB.out | apply below_alloc | apply pw_below_drewN | apply below_drew1) | exact HB.out)))); have n1_ := Aside0.mk (below_step (by repeat (first | (with_reducible first | exact HB.out | apply below_alloc | apply pw_below_drewN | apply below_drew1) | exact HB.out)) hb); clear HB; have HO170 := n0_; have HB := n1_; clear n0_ n1_; (try clear hb); (try clear hb2); (try clear hk); (try clear hi); (try clear ho0); obtain ⟨Ao5, co5, eo5⟩ := Kd.R_slice HO170.out; subst eo5) | ((with_reducible refine gate_callee (f := 14) rfl ?_); refine goesL_ (some 15) rfl rfl Try.func14 (by kernel_rfl) rfl #[.slice Ao5 t166.length co5] rfl (by (try simp only [List.map_toArray, List.map_cons, List.map_nil]); first | done | rfl | (simp only [List.length_drop, List.length_take]; rfl)) ?_; (with_reducible refine (asset_plain.calls k _ _ t166 t171 _ ?side1 ?side2 A3.out).mono ?_); (case side1 => repeat (first | exact (Kd.R_reads' HO170.out).2.2 | (with_reducible refine Kd.C_alloc ?_ _) | (with_reducible refine Kd.C_drewN ?_ _) | (with_reducible refine Kd.C_drew ?_))); (case side2 => exact (Kd.R_reads' HO170.out).2.1); rintro e w6 ⟨v172, rfl, ho0, hb⟩; refine ⟨_, rfl, ?_⟩; have n0_ := Aside0.mk (Kd.R_below (by (with_reducible repeat (first | apply Kd.R_alloc | apply Kd.R_drewN | apply Kd.R_drew)); exact HO170.out) hb); have n1_ := Aside0.mk (Kd.R_lower ho0 (below_size (by repeat (first | (with_reducible first | exact HB.out | apply below_alloc | apply pw_below_drewN | apply below_drew1) | exact HB.out)))); have n2_ := Aside0.mk (below_step (by repeat (first | (with_reducible first | exact HB.out | apply below_alloc | apply pw_below_drewN | apply below_drew1) | exact HB.out)) hb); clear HO170; clear HB; have HO170 := n0_; have HO173 := n1_; have HB := n2_; clear n0_ n1_ n2_; (try clear hb); (try clear hb2); (try clear hk); (try clear hi); (try clear ho0)))
  go_ret3
  exact ⟨_, by first | rfl | (simp [errW_none, errW_some] <;> rfl) | (simp [*, errW_none, errW_some] <;> rfl), by (with_reducible repeat (first | apply Kd.R_alloc | apply Kd.R_drewN | apply Kd.R_drew)); exact HO173.out, by repeat (first | (with_reducible first | exact HB.out | apply below_alloc | apply pw_below_drewN | apply below_drew1) | exact HB.out)⟩

/-! ### asset_ScriptTokens: function 7 -/
def asset_ScriptTokens.f (k : Nat) (a0 : ByteArray) : Option ((List (S33)) × Int × Int) := (asset_tokens.f k a0 true).bind fun bt174 => ((asset_plain.f k bt174.1).bind fun t179 => (some (t179, bt174.2.1, bt174.2.2)))
theorem asset_ScriptTokens.mono : ∀ a0 k, LeO (asset_ScriptTokens.f k a0) (asset_ScriptTokens.f (k + 1) a0) := by
  intro a0 k
  unfold asset_ScriptTokens.f
  repeat' first
      | (with_reducible exact asset_plain.mono _ _)
      | (with_reducible exact asset_tokens.mono _ _ _)
      | (with_reducible exact LeO.refl _)
      | (with_reducible exact LeO.none _)
      | (with_reducible refine LeO.ite ?_ ?_)
      | (with_reducible refine LeO.bind ?_ (fun _ => ?_))
      | exact asset_plain.mono _ _
      | exact asset_tokens.mono _ _ _
      | exact LeO.none _
      | refine LeO.ite ?_ ?_
      | refine LeO.bind ?_ (fun _ => ?_)
set_option maxHeartbeats 8000000 in
set_option maxRecDepth 100000 in
theorem asset_ScriptTokens.calls (k : Nat) (a0 : ByteArray) (r1 : List (S33)) (r2 : Int) (r3 : Int) (w : World) (h : asset_ScriptTokens.f k a0 = some (r1, r2, r3)) (hG : Gh.G w := by repeat' (first | with_reducible assumption | with_reducible apply Gh.G.drewN | with_reducible apply Gh.G.drew | with_reducible apply Gh.G.alloc | (with_reducible refine Gh.G.set ?_ (by assumption) (by assumption)) | exact Gh.G.aside (by assumption) (by assumption))) :
    Calls Try.prog 7 #[.string a0] w fun e w' => ∃ v0_ : Value, e = .returned (.tuple #[v0_, .int .i64 r2, .int .i64 r3]) ∧ Kd.R k33 33 w' w.heap.size (fun _ => True) v0_ r1 ∧ Below w.heap.size w w' := by
  have HB := Aside0.mk (Below.refl w.heap.size w)
  have H : ((asset_tokens.f k a0 true).bind fun bt174 => ((asset_plain.f k bt174.1).bind fun t179 => (some (t179, bt174.2.1, bt174.2.2)))) = some (r1, r2, r3) := h
  clear h
  replace H := Option.bind_eq_some_iff.mp H
  obtain ⟨⟨t174, t175, t176⟩, A20, H⟩ := H
  replace H : ((asset_plain.f k t174).bind fun t179 => (some (t179, t175, t176))) = some (r1, r2, r3) := H
  have A2 := Aside0.mk A20
  clear A20
  replace H := Option.bind_eq_some_iff.mp H
  obtain ⟨t179, A30, H⟩ := H
  replace H : (some (t179, t175, t176)) = some (r1, r2, r3) := H
  have A3 := Aside0.mk A30
  clear A30
  simp only [Option.some.injEq, Prod.mk.injEq] at H
  obtain ⟨rfl, rfl, rfl⟩ := H
  go_enter Try.func7, Try.ntmps7
  go_wp2_with (first | ((with_reducible refine gate_callee (f := 15) rfl ?_); refine goesL_ (some 10) rfl rfl Try.func15 (by kernel_rfl) rfl #[.string a0, .bool true] rfl (by (try simp only [List.map_toArray, List.map_cons, List.map_nil]); first | done | rfl | (simp only [List.length_drop, List.length_take]; rfl)) ?_; (with_reducible refine (asset_tokens.calls k a0 true t174 t175 t176 _ A2.out).mono ?_); rintro e w4 ⟨v177, rfl, ho0, hb⟩; refine ⟨_, rfl, ?_⟩; have n0_ := Aside0.mk (Kd.R_lower ho0 (below_size (by repeat (first | (with_reducible first | exact HB.out | apply below_alloc | apply pw_below_drewN | apply below_drew1) | exact HB.out)))); have n1_ := Aside0.mk (below_step (by repeat (first | (with_reducible first | exact HB.out | apply below_alloc | apply pw_below_drewN | apply below_drew1) | exact HB.out)) hb); clear HB; have HO178 := n0_; have HB := n1_; clear n0_ n1_; (try clear hb); (try clear hb2); (try clear hk); (try clear hi); (try clear ho0); obtain ⟨Ao5, co5, eo5⟩ := Kd.R_slice HO178.out; subst eo5) | ((with_reducible refine gate_callee (f := 14) rfl ?_); refine goesL_ (some 15) rfl rfl Try.func14 (by kernel_rfl) rfl #[.slice Ao5 t174.length co5] rfl (by (try simp only [List.map_toArray, List.map_cons, List.map_nil]); first | done | rfl | (simp only [List.length_drop, List.length_take]; rfl)) ?_; (with_reducible refine (asset_plain.calls k _ _ t174 t179 _ ?side1 ?side2 A3.out).mono ?_); (case side1 => repeat (first | exact (Kd.R_reads' HO178.out).2.2 | (with_reducible refine Kd.C_alloc ?_ _) | (with_reducible refine Kd.C_drewN ?_ _) | (with_reducible refine Kd.C_drew ?_))); (case side2 => exact (Kd.R_reads' HO178.out).2.1); rintro e w6 ⟨v180, rfl, ho0, hb⟩; refine ⟨_, rfl, ?_⟩; have n0_ := Aside0.mk (Kd.R_below (by (with_reducible repeat (first | apply Kd.R_alloc | apply Kd.R_drewN | apply Kd.R_drew)); exact HO178.out) hb); have n1_ := Aside0.mk (Kd.R_lower ho0 (below_size (by repeat (first | (with_reducible first | exact HB.out | apply below_alloc | apply pw_below_drewN | apply below_drew1) | exact HB.out)))); have n2_ := Aside0.mk (below_step (by repeat (first | (with_reducible first | exact HB.out | apply below_alloc | apply pw_below_drewN | apply below_drew1) | exact HB.out)) hb); clear HO178; clear HB; have HO178 := n0_; have HO181 := n1_; have HB := n2_; clear n0_ n1_ n2_; (try clear hb); (try clear hb2); (try clear hk); (try clear hi); (try clear ho0)))
  go_ret3
  exact ⟨_, by first | rfl | (simp [errW_none, errW_some] <;> rfl) | (simp [*, errW_none, errW_some] <;> rfl), by (with_reducible repeat (first | apply Kd.R_alloc | apply Kd.R_drewN | apply Kd.R_drew)); exact HO181.out, by repeat (first | (with_reducible first | exact HB.out | apply below_alloc | apply pw_below_drewN | apply below_drew1) | exact HB.out)⟩

end Go.Proofs.Ytllpaepiiiedgaa.PAssetSame
