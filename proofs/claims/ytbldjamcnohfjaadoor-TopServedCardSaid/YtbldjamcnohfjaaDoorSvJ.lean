/- For TopServed: Events, walked: the addresses of what differs, in order. No condition. -/
import Derived.Test.YtbldjamcnohfjaaDoorSvI
import Derived.Test.YtbldjamcnohfjaaDoorSvE
namespace Go.Proofs.YtbldjamcnohfjaaDoor.PTopServed
open Go.RowKit Go.Proofs.YtbldjamcnohfjaaDoorW.PrintWords Go.Proofs.YtbldjamcnohfjaaDoorW.PrintLast Go.Proofs.YtbldjamcnohfjaaDoorW.PrintMore
set_option linter.unusedVariables false
set_option linter.unusedSimpArgs false
theorem info9 : (Tryd.prog.info? 9).map (fun i => (i.zero, i.size, i.bytes)) = some (some (.string ⟨#[]⟩), 1, 16) := by kernel_rfl
def chg (aft : SM) (x : S30) : Bool := !(Mp.look aft x.f0).isSome || (((Mp.look aft x.f0).getD ⟨#[]⟩).toList != x.f1.toList)
def ev1 (aft : SM) (ad : Nat → ByteArray) (l : List S30) : Nat → List ByteArray
  | 0 => []
  | j + 1 => if chg aft (rd_T30 l j) = true then ev1 aft ad l j ++ [ad j] else ev1 aft ad l j
def ev2 (bef : SM) (ad : Nat → ByteArray) (l : List S30) (out : List ByteArray) : Nat → List ByteArray
  | 0 => out
  | j + 1 => if (Mp.look bef (rd_T30 l j).f0).isSome = true then ev2 bef ad l out j else ev2 bef ad l out j ++ [ad j]
theorem ev1_len (aft : SM) (ad : Nat → ByteArray) (l : List S30) : ∀ j, (ev1 aft ad l j).length ≤ j
  | 0 => Nat.le_refl _
  | j + 1 => by
    have := ev1_len aft ad l j
    rw [ev1]
    split
    · rw [List.length_append, List.length_singleton]; omega
    · omega
theorem ev2_len (bef : SM) (ad : Nat → ByteArray) (l : List S30) (out : List ByteArray) : ∀ j, (ev2 bef ad l out j).length ≤ out.length + j
  | 0 => Nat.le_refl _
  | j + 1 => by
    have := ev2_len bef ad l out j
    rw [ev2]
    split
    · omega
    · rw [List.length_append, List.length_singleton]; omega
theorem Is_grown {α : Type} {d : Kd α} {W w1 : World} {b e base : Nat} {m : SM} {v : Value} {xs : List α} {ok : Nat → Prop} (h : Mp.Is Tryd.prog 9 E1 E1 b m W) (hR : d.R e W base ok v xs) (hg : W.grownBy w1 v.ownBlock) : Mp.Is Tryd.prog 9 E1 E1 b m w1 :=
  h.block (hg.block b h.lt (fun he => by
    obtain ⟨_, _, _, q, _, cells, hc⟩ := (Kd.R_bound hR).1 b he.symm
    exact h.ne hc rfl))
structure EvAt (w : World) (b1 b2 : Nat) (m1 m2 : SM) (v : Value) (xs : List ByteArray) (W : World) : Prop where
  M1 : Mp.Is Tryd.prog 9 E1 E1 b1 m1 W
  M2 : Mp.Is Tryd.prog 9 E1 E1 b2 m2 W
  R : Kd.R Kd.string 9 W w.heap.size (fun _ => True) v xs
  B : Below w.heap.size w W
section
variable {w W w1 : World} {b1 b2 : Nat} {m1 m2 : SM} {v v1 : Value} {xs ys : List ByteArray}
theorem EvAt.below (h : EvAt w b1 b2 m1 m2 v xs W) (hb : Below W.heap.size W w1) : EvAt w b1 b2 m1 m2 v xs w1 := ⟨h.M1.below hb, h.M2.below hb, Kd.R_below h.R hb, below_step h.B hb⟩
theorem EvAt.alloc (h : EvAt w b1 b2 m1 m2 v xs W) (o : Obj) : EvAt w b1 b2 m1 m2 v xs (W.alloc o) := h.below (below_alloc (Below.refl _ _) o)
theorem EvAt.app (h : EvAt w b1 b2 m1 m2 v xs W) (ho : Kd.R Kd.string 9 w1 w.heap.size (fun _ => True) v1 ys) (hb : Below w.heap.size w w1) (hg : W.grownBy w1 v.ownBlock) : EvAt w b1 b2 m1 m2 v1 ys w1 := ⟨Is_grown h.M1 h.R hg, Is_grown h.M2 h.R hg, ho, hb⟩
end
set_option maxHeartbeats 3000000 in
set_option maxRecDepth 100000 in
theorem events_ok (k : Nat) (A0 : Option Addr) (c0 : Nat) (l0 : List S30) (A1 : Option Addr) (c1 : Nat) (l1 : List S30) (w : World) (ad0 tr0 ad1 tr1 : Nat → ByteArray) (hr0 : Kd.C k30 w A0 l0.length l0) (hc0 : l0.length ≤ c0) (hr1 : Kd.C k30 w A1 l1.length l1) (hc1 : l1.length ≤ c1) (hl0 : l0.length ≤ 1000000000) (hl1 : l1.length ≤ 1000000000)
    (h0 : ship_CheckOuts.f k l0 = some 0) (h1 : ship_CheckOuts.f k l1 = some 0) (ha0 : Ads k l0 ad0 tr0) (ha1 : Ads k l1 ad1 tr1) (hz0 : ∀ j : Nat, j < l0.length → (rd_T30 l0 j).f0.size ≤ maxLen) (hz1 : ∀ j : Nat, j < l1.length → (rd_T30 l1 j).f0.size ≤ maxLen) :
    Calls Tryd.prog 5 #[.slice A0 l0.length c0, .slice A1 l1.length c1] w fun e w' => ∃ v, e = .returned (.tuple #[v, .int .i64 0]) ∧ Kd.R Kd.string 9 w' w.heap.size (fun _ => True) v (srt (ev2 (bd l0 l0.length) ad1 l1 (ev1 (bd l1 l1.length) ad0 l0 l0.length) l1.length)) ∧ Below w.heap.size w w' := by
  have HR0 := Aside0.mk hr0
  have HC0 := Aside0.mk hc0
  have H0 := Aside0.mk h0
  have HA0 := Aside0.mk ha0
  have HZ0 := Aside0.mk hz0
  have HR1 := Aside0.mk hr1
  have HC1 := Aside0.mk hc1
  have H1 := Aside0.mk h1
  have HA1 := Aside0.mk ha1
  have HZ1 := Aside0.mk hz1
  clear hr0 hc0 h0 ha0 hz0 hr1 hc1 h1 ha1 hz1
  have hu30 := Tryd.underlying30
  have HB := Aside0.mk (Below.refl w.heap.size w)
  go_enter Tryd.func5, Tryd.ntmps5
  go_upto_region 7 with (first | (go_at_call 12; (with_reducible refine (ship_CheckOuts.calls k A0 c0 l0 0 _ ?s0 HC0.out H0.out).mono ?_); (case s0 => exact Kd.C_below HR0.out HB.out); rintro e W0 ⟨rfl, hb⟩; have n1 := Aside0.mk (below_step HB.out hb); clear HB hb; have HB := n1; clear n1) | (go_at_call 12; (with_reducible refine (ship_CheckOuts.calls k A1 c1 l1 0 _ ?s1 HC1.out H1.out).mono ?_); (case s1 => exact Kd.C_below HR1.out HB.out); rintro e W1 ⟨rfl, hb⟩; have n1 := Aside0.mk (below_step HB.out hb); clear HB hb; have HB := n1; clear n1))
  go_wp2_with (first | (go_at_call 13; (with_reducible refine (bodies_calls A0 c0 l0 _ ?t0 (by omega) HZ0.out).mono ?_); (case t0 => exact Kd.C_below HR0.out HB.out); rintro e V0 ⟨b0, rfl, hm⟩; skip; have n1 := Aside0.mk (below_step HB.out hm.B); clear HB; have HB := n1; clear n1; have HM0 := Aside0.mk hm.M; clear hm) | (go_at_call 13; (with_reducible refine (bodies_calls A1 c1 l1 _ ?t1 (by omega) HZ1.out).mono ?_); (case t1 => exact Kd.C_below HR1.out HB.out); rintro e V1 ⟨b1, rfl, hm⟩; have n0 := Aside0.mk (HM0.out.below hm.B); clear HM0; have HM0 := n0; clear n0; have n1 := Aside0.mk (below_step HB.out hm.B); clear HB; have HB := n1; clear n1; have HM1 := Aside0.mk hm.M; clear hm))
  have HE0 := Aside0.mk (show EvAt w b0 b1 (bd l0 l0.length) (bd l1 l1.length) (.slice none 0 0) (ev1 (bd l1 l1.length) ad0 l0 0) V1 from ⟨HM0.out, HM1.out, Kd.R_nil _ _ _ _ _, HB.out⟩)
  clear HM0 HM1 HB
  generalize hm0 : bd l0 l0.length = m0 at *
  generalize hm1 : bd l1 l1.length = m1 at *
  have G0 := Aside0.mk hm0
  have G1 := Aside0.mk hm1
  clear hm0 hm1
  go_loopw [10, 39] (fun v i wr => ∃ j : Nat, j ≤ l0.length ∧ i = .int .i64 j ∧ Aside0 (EvAt w b0 b1 m0 m1 v (ev1 m1 ad0 l0 j) wr)) (fun _ i _ => l0.length - (intOf i).toNat)
  case atStart => exact ⟨0, Nat.zero_le _, rfl, HE0⟩
  case round =>
    clear HE0
    obtain ⟨j, hj, rfl, HE⟩ := hrel
    by_cases hlt : j < l0.length
    · obtain ⟨pa, rfl, x0, x1⟩ := at_T30 (Kd.C_below HR0.out HE.out.B) j (by omega) (by omega)
      rw [Int.toNat_natCast] at x0 x1
      have AJ := Aside0.mk (HA0.out.a j hlt)
      have ZJ := Aside0.mk (HZ0.out j hlt)
      have HS1 := Aside0.mk (show chg m1 (rd_T30 l0 j) = true → ev1 m1 ad0 l0 (j + 1) = ev1 m1 ad0 l0 j ++ [ad0 j] from fun h => by rw [ev1, if_pos h])
      have HS2 := Aside0.mk (show chg m1 (rd_T30 l0 j) = false → ev1 m1 ad0 l0 (j + 1) = ev1 m1 ad0 l0 j from fun h => by rw [ev1, if_neg (by rw [h]; decide)])
      have HN := Aside0.mk (ev1_len m1 ad0 l0 j)
      generalize rd_T30 l0 j = x at *
      generalize ad0 j = aj at *
      have hlt' : (j : Int) < (l0.length : Int) := by omega
      obtain ⟨q, hq⟩ := tm_q1 x.f0 ZJ.out
      have HQ := Aside0.mk hq
      clear hq
      cases hlk : Mp.look m1 x.f0 with
      | none =>
        have HLK := Aside0.mk hlk
        have CH := Aside0.mk (show chg m1 x = true by unfold chg; rw [hlk]; rfl)
        clear hlk
        go_wp2_with (first | (at_lookup; refine Mp.wp_look rfl _ _ true rfl tm_k1 Tryd.underlying43 (tm_z9 _) E1_inj rfl (HE.out.alloc _).M2 x.f0 q rfl HQ.out ?_; simp only [E1, if_true, HLK.out, Option.map_some, Option.map_none, Option.getD_some, Option.getD_none, Option.isSome_some, Option.isSome_none]) | (go_at_call 7; refine (ship_Address.calls k x.f0 aj 0 _ AJ.out).mono ?_; rintro e W5 ⟨rfl, hb⟩; have n1 := Aside0.mk ((HE.out.alloc _).below hb); clear HE hb; have HE := n1; clear n1) | ((with_reducible refine gate_builtin (b := .append) (xs := #[.tmp 64, .tmp 66]) rfl ?_); at_builtin; (refine Kd.R_append Kd.string (w0 := w) w.heap.size rfl (.tmp 64) (.tmp 66) 24 9 (.string ⟨#[]⟩) 16 rfl Tryd.underlying24 info9 rfl (by decide) (by omega) _ (ev1 m1 ad0 l0 j) aj [.string aj] (fun _ => True) (fun _ => False) rfl rfl ?aP (fun _ hk => hk.elim) (fun _ _ => trivial) HE.out.R HE.out.B (below_size HE.out.B) ?aL ?_; (case aP => exact rfl); (case aL => have := HN.out; omega); intro v1 w1 ho hb hg hat; have n1 := Aside0.mk (HE.out.app ho hb hg); clear HE ho hb hg hat; have HE := n1; clear n1)))
        go_round
        case measure => simp [intOf]; omega
        case rel => exact ⟨j + 1, by omega, by simp, ⟨by rw [HS1.out CH.out]; exact HE.out⟩⟩
      | some bo =>
        have HLK := Aside0.mk hlk
        by_cases hbo : bo.toList = x.f1.toList
        · have e1 : (bo.toList != x.f1.toList) = false := bne_eq_false_iff_eq.2 hbo
          have e2 : (bo.toList == x.f1.toList) = true := beq_iff_eq.2 hbo
          have CH := Aside0.mk (show chg m1 x = false by unfold chg; rw [hlk, Option.getD_some, e1]; rfl)
          clear hlk hbo
          have HE2 := Aside0.mk (HE.out.alloc (.cells #[.string x.f0, .string x.f1] 30))
          go_wp2_with (first | (at_lookup; refine Mp.wp_look rfl _ _ true rfl tm_k1 Tryd.underlying43 (tm_z9 _) E1_inj rfl (HE.out.alloc _).M2 x.f0 q rfl HQ.out ?_; simp only [E1, if_true, HLK.out, Option.map_some, Option.map_none, Option.getD_some, Option.getD_none, Option.isSome_some, Option.isSome_none]))
          clear HE
          have HE := HE2
          go_round
          case measure => simp [intOf]; omega
          case rel => exact ⟨j + 1, by omega, by simp, ⟨by rw [HS2.out CH.out]; exact HE.out⟩⟩
        · have e1 : (bo.toList != x.f1.toList) = true := bne_iff_ne.2 hbo
          have e2 : (bo.toList == x.f1.toList) = false := beq_eq_false_iff_ne.2 hbo
          have CH := Aside0.mk (show chg m1 x = true by unfold chg; rw [hlk, Option.getD_some, e1]; rfl)
          clear hlk hbo
          go_wp2_with (first | (at_lookup; refine Mp.wp_look rfl _ _ true rfl tm_k1 Tryd.underlying43 (tm_z9 _) E1_inj rfl (HE.out.alloc _).M2 x.f0 q rfl HQ.out ?_; simp only [E1, if_true, HLK.out, Option.map_some, Option.map_none, Option.getD_some, Option.getD_none, Option.isSome_some, Option.isSome_none]) | (go_at_call 7; refine (ship_Address.calls k x.f0 aj 0 _ AJ.out).mono ?_; rintro e W5 ⟨rfl, hb⟩; have n1 := Aside0.mk ((HE.out.alloc _).below hb); clear HE hb; have HE := n1; clear n1) | ((with_reducible refine gate_builtin (b := .append) (xs := #[.tmp 64, .tmp 66]) rfl ?_); at_builtin; (refine Kd.R_append Kd.string (w0 := w) w.heap.size rfl (.tmp 64) (.tmp 66) 24 9 (.string ⟨#[]⟩) 16 rfl Tryd.underlying24 info9 rfl (by decide) (by omega) _ (ev1 m1 ad0 l0 j) aj [.string aj] (fun _ => True) (fun _ => False) rfl rfl ?aP (fun _ hk => hk.elim) (fun _ _ => trivial) HE.out.R HE.out.B (below_size HE.out.B) ?aL ?_; (case aP => exact rfl); (case aL => have := HN.out; omega); intro v1 w1 ho hb hg hat; have n1 := Aside0.mk (HE.out.app ho hb hg); clear HE ho hb hg hat; have HE := n1; clear n1)))
          go_round
          case measure => simp [intOf]; omega
          case rel => exact ⟨j + 1, by omega, by simp, ⟨by rw [HS1.out CH.out]; exact HE.out⟩⟩
    · obtain rfl : j = l0.length := by omega
      have hlt' : ¬ ((l0.length : Int) < (l0.length : Int)) := by omega
      go_wp2_with fail
      have HE1 := Aside0.mk (show EvAt w b0 b1 m0 m1 _ (ev2 m0 ad1 l1 (ev1 m1 ad0 l0 l0.length) 0) wr from HE.out)
      clear HE
      have HN0 := Aside0.mk (ev1_len m1 ad0 l0 l0.length)
      generalize ho0 : ev1 m1 ad0 l0 l0.length = o0 at *
      have G2 := Aside0.mk ho0
      clear ho0
      go_loopw [10, 71] (fun v i wr => ∃ j : Nat, j ≤ l1.length ∧ i = .int .i64 j ∧ Aside0 (EvAt w b0 b1 m0 m1 v (ev2 m0 ad1 l1 o0 j) wr)) (fun _ i _ => l1.length - (intOf i).toNat)
      case atStart => exact ⟨0, Nat.zero_le _, rfl, HE1⟩
      case round =>
        clear HE1 hlt hlt' hj
        obtain ⟨j, hj, rfl, HE⟩ := hrel
        by_cases hlt : j < l1.length
        · obtain ⟨pa, rfl, x0, x1⟩ := at_T30 (Kd.C_below HR1.out HE.out.B) j (by omega) (by omega)
          rw [Int.toNat_natCast] at x0 x1
          have AJ := Aside0.mk (HA1.out.a j hlt)
          have ZJ := Aside0.mk (HZ1.out j hlt)
          have HS1 := Aside0.mk (show Mp.look m0 (rd_T30 l1 j).f0 = none → ev2 m0 ad1 l1 o0 (j + 1) = ev2 m0 ad1 l1 o0 j ++ [ad1 j] from fun h => by rw [ev2, if_neg (by rw [h]; decide)])
          have HS2 := Aside0.mk (show ∀ bo, Mp.look m0 (rd_T30 l1 j).f0 = some bo → ev2 m0 ad1 l1 o0 (j + 1) = ev2 m0 ad1 l1 o0 j from fun bo h => by rw [ev2, if_pos (by rw [h]; rfl)])
          have HN := Aside0.mk (Nat.le_trans (ev2_len m0 ad1 l1 o0 j) (Nat.add_le_add_right HN0.out j))
          generalize rd_T30 l1 j = x at *
          generalize ad1 j = aj at *
          have hlt' : (j : Int) < (l1.length : Int) := by omega
          obtain ⟨q, hq⟩ := tm_q1 x.f0 ZJ.out
          have HQ := Aside0.mk hq
          clear hq
          cases hlk : Mp.look m0 x.f0 with
          | none =>
            have HLK := Aside0.mk hlk
            clear hlk
            go_wp2_with (first | (at_lookup; refine Mp.wp_look rfl _ _ true rfl tm_k1 Tryd.underlying43 (tm_z9 _) E1_inj rfl (HE.out.alloc _).M1 x.f0 q rfl HQ.out ?_; simp only [E1, if_true, HLK.out, Option.map_some, Option.map_none, Option.getD_some, Option.getD_none, Option.isSome_some, Option.isSome_none]) | (go_at_call 7; refine (ship_Address.calls k x.f0 aj 0 _ AJ.out).mono ?_; rintro e W5 ⟨rfl, hb⟩; have n1 := Aside0.mk ((HE.out.alloc _).below hb); clear HE hb; have HE := n1; clear n1) | ((with_reducible refine gate_builtin (b := .append) (xs := #[.tmp 90, .tmp 92]) rfl ?_); at_builtin; (refine Kd.R_append Kd.string (w0 := w) w.heap.size rfl (.tmp 90) (.tmp 92) 24 9 (.string ⟨#[]⟩) 16 rfl Tryd.underlying24 info9 rfl (by decide) (by omega) _ (ev2 m0 ad1 l1 o0 j) aj [.string aj] (fun _ => True) (fun _ => False) rfl rfl ?aP (fun _ hk => hk.elim) (fun _ _ => trivial) HE.out.R HE.out.B (below_size HE.out.B) ?aL ?_; (case aP => exact rfl); (case aL => have := HN.out; omega); intro v1 w1 ho hb hg hat; have n1 := Aside0.mk (HE.out.app ho hb hg); clear HE ho hb hg hat; have HE := n1; clear n1)))
            go_round
            case measure => simp [intOf]; omega
            case rel => exact ⟨j + 1, by omega, by simp, ⟨by rw [HS1.out HLK.out]; exact HE.out⟩⟩
          | some bo =>
            have HLK := Aside0.mk hlk
            clear hlk
            have HE2 := Aside0.mk (HE.out.alloc (.cells #[.string x.f0, .string x.f1] 30))
            go_wp2_with (first | (at_lookup; refine Mp.wp_look rfl _ _ true rfl tm_k1 Tryd.underlying43 (tm_z9 _) E1_inj rfl (HE.out.alloc _).M1 x.f0 q rfl HQ.out ?_; simp only [E1, if_true, HLK.out, Option.map_some, Option.map_none, Option.getD_some, Option.getD_none, Option.isSome_some, Option.isSome_none]))
            clear HE
            have HE := HE2
            go_round
            case measure => simp [intOf]; omega
            case rel => exact ⟨j + 1, by omega, by simp, ⟨by rw [HS2.out bo HLK.out]; exact HE.out⟩⟩
        · obtain rfl : j = l1.length := by omega
          have hlt' : ¬ ((l1.length : Int) < (l1.length : Int)) := by omega
          have HN := Aside0.mk (Nat.le_trans (ev2_len m0 ad1 l1 o0 l1.length) (Nat.add_le_add_right HN0.out _))
          go_wp2_with (go_at_call 14; refine (sort_own w _ _ _ HE.out.R HE.out.B (by have := HN.out; omega)).mono ?_; rintro e W9 ⟨rfl, hR, hB⟩; have HR9 := Aside0.mk hR; have HB9 := Aside0.mk hB; clear hR hB)
          go_ret2
          have HR10 := HR9.out
          rw [← G2.out, ← G0.out, ← G1.out] at HR10
          refine ⟨_, ?_, HR10, HB9.out⟩
          rfl
end Go.Proofs.YtbldjamcnohfjaaDoor.PTopServed
