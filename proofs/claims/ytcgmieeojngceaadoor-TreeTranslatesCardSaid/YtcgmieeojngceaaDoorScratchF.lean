/- For TreeTranslates: The law's text, walked, out of facts about the plain functions. No condition. -/
import Derived.Test.YtcgmieeojngceaaDoorScratchE
namespace Go.Proofs.YtcgmieeojngceaaDoor.PTreeTranslates
open Go.RowKit Go.Proofs.YtcgmieeojngceaaDoorW.PrintWords Go.Proofs.YtcgmieeojngceaaDoorW.PrintLast Go.Proofs.YtcgmieeojngceaaDoorW.PrintMore
set_option linter.unusedVariables false
set_option linter.unusedSimpArgs false
/-- the languages that have been seen of the first j numbers of a list, the last first -/
def sn (l1 : List S39) (t : List Int) : Nat → PgA
 | 0 => []
 | j + 1 => ((rd_T39 l1 (rd t j)).f2, true) :: sn l1 t j
structure TTs (k : Nat) (l0 : List ByteArray) (l1 : List S39) (T : Nat → List Int) : Prop where
 tr : ∀ i : Nat, i < l1.length → tree_Translations.f k l0 l1 i = some (T i, 0)
 ct : ∀ i : Nat, i < l1.length → slices_Contains_int_int.f k (T i) i = some true
 lo : ∀ i : Nat, i < l1.length → ∀ j : Nat, j < (T i).length → ∃ q : Nat, rd (T i) j = (q : Int) ∧ q < l1.length ∧ slices_Equal_int_int.f k (T i) (T q) = some true ∧ (Mp.look (sn l1 (T i) j) (rd_T39 l1 q).f2).getD false = false
 sz : ∀ j : Nat, j < l1.length → (rd_T39 l1 j).f2.size ≤ maxLen
 ln : ∀ i : Nat, i < l1.length → (T i).length ≤ 1500
structure SnAt (Wa : World) (b : Nat) (l : PgA) (W : World) : Prop where
 M : Mp.Is Tryd.prog 9 E1 VB b l W
 B : Below Wa.heap.size Wa W
 N : Wa.heap.size ≤ b
theorem SnAt.below {Wa W W1 : World} {b : Nat} {l : PgA} (h : SnAt Wa b l W) (hb : Below W.heap.size W W1) : SnAt Wa b l W1 := ⟨h.M.below hb, below_step h.B hb, h.N⟩
theorem SnAt.drewN {Wa W : World} {b : Nat} {l : PgA} (h : SnAt Wa b l W) (n : Nat) : SnAt Wa b l (W.drewN n) := h.below (pw_below_drewN (Below.refl _ _) n)
theorem SnAt.put {Wa W W1 : World} {b : Nat} {l l' : PgA} (h : SnAt Wa b l W) (hm : Mp.Is Tryd.prog 9 E1 VB b l' W1) (hg : W.grownBy W1 (some b)) : SnAt Wa b l' W1 := ⟨hm, h.B.trans (Mp.grown_below hg h.N (below_size h.B)), h.N⟩
set_option maxHeartbeats 2000000 in
set_option maxRecDepth 100000 in
theorem tt_calls (k : Nat) (w : World) (A0 : Option Addr) (c0 : Nat) (l0 : List ByteArray) (A1 : Option Addr) (c1 : Nat) (l1 : List S39) (r : Int) (hr0 : Kd.C Kd.string w A0 l0.length l0) (hc0 : l0.length ≤ c0) (hr1 : Kd.C k39 w A1 l1.length l1) (hc1 : l1.length ≤ c1)
  (hlen : l1.length ≤ 1000000000000) (haw : mastkeep2_awakeTree.f k = some true) (hcs : tree_CheckSite.f k l0 l1 = some r) (hT : r = 0 → ∃ T, TTs k l0 l1 T) :
  Calls Tryd.prog 3 #[.agg #[.slice A0 l0.length c0, .slice A1 l1.length c1]] w fun e w' => e = .returned (.bool true) ∧ Below w.heap.size w w' := by
 have HR0 := Aside0.mk hr0
 have HC0 := Aside0.mk hc0
 have HR1 := Aside0.mk hr1
 have HC1 := Aside0.mk hc1
 have HAW := Aside0.mk haw
 have HCS := Aside0.mk hcs
 clear hr0 hr1 hc0 hc1 haw hcs
 have hu25 := Tryd.underlying25
 have hu37 := Tryd.underlying37
 have hu39 := Tryd.underlying39
 have hu33 := Tryd.underlying33
 have hmk := @run_makeMap Tryd.prog
 go_enter Tryd.func3, Tryd.ntmps3
 go_upto_region 1 with (fail)
 have HP := Aside0.mk (show CsAt w (.slice A0 l0.length c0) (.slice A1 l1.length c1) (w.alloc (.cells #[.slice A0 l0.length c0, .slice A1 l1.length c1] 25)) from ⟨blk_new _ _, below_alloc (Below.refl _ _) _⟩)
 generalize w.alloc (.cells #[.slice A0 l0.length c0, .slice A1 l1.length c1] 25) = W1 at HP ⊢
 have y0 : W1.cell? ⟨w.heap.size, 0, none⟩ = some (.slice A0 l0.length c0) := (blk_cell HP.out.Q 0).trans rfl
 have y1 : W1.cell? ⟨w.heap.size, 1, none⟩ = some (.slice A1 l1.length c1) := (blk_cell HP.out.Q 1).trans rfl
 have HE : Aside0 True := ⟨trivial⟩
 by_cases he : r = 0
 case neg =>
  have e3 : (r != 0) = true := bne_iff_ne.2 he
  have e4 : (r == 0) = false := beq_eq_false_iff_ne.2 he
  clear he hT
  go_wp2_with (first | (go_at_call 4; refine (mastkeep2_awakeTree.calls k true _ HAW.out).mono ?_; rintro e W2 ⟨rfl, hb⟩; have n1 := Aside0.mk (HP.out.below hb); clear HP y0 y1; have HP := n1; clear n1; clear hb; have y0 : W2.cell? ⟨w.heap.size, 0, none⟩ = some (.slice A0 l0.length c0) := (blk_cell HP.out.Q 0).trans rfl; have y1 : W2.cell? ⟨w.heap.size, 1, none⟩ = some (.slice A1 l1.length c1) := (blk_cell HP.out.Q 1).trans rfl) | (go_at_call 5; refine (tree_CheckSite.calls k A0 c0 l0 A1 c1 l1 _ _ ?s1 HC0.out ?s2 HC1.out HCS.out).mono ?_; (case s1 => exact Kd.C_below HR0.out HP.out.B); (case s2 => exact Kd.C_below HR1.out HP.out.B); rintro e W3 ⟨rfl, hb⟩; have n1 := Aside0.mk (HP.out.below hb); clear HP y0 y1; have HP := n1; clear n1; clear hb; have y0 : W3.cell? ⟨w.heap.size, 0, none⟩ = some (.slice A0 l0.length c0) := (blk_cell HP.out.Q 0).trans rfl; have y1 : W3.cell? ⟨w.heap.size, 1, none⟩ = some (.slice A1 l1.length c1) := (blk_cell HP.out.Q 1).trans rfl))
  go_ret
  exact ⟨rfl, HP.out.B⟩
 case pos =>
  obtain ⟨T, hTT⟩ := hT he
  obtain rfl := he
  have HTT := Aside0.mk hTT
  clear hTT hT
  go_wp2_with (first | (go_at_call 4; refine (mastkeep2_awakeTree.calls k true _ HAW.out).mono ?_; rintro e W2 ⟨rfl, hb⟩; have n1 := Aside0.mk (HP.out.below hb); clear HP y0 y1; have HP := n1; clear n1; clear hb; have y0 : W2.cell? ⟨w.heap.size, 0, none⟩ = some (.slice A0 l0.length c0) := (blk_cell HP.out.Q 0).trans rfl; have y1 : W2.cell? ⟨w.heap.size, 1, none⟩ = some (.slice A1 l1.length c1) := (blk_cell HP.out.Q 1).trans rfl) | (go_at_call 5; refine (tree_CheckSite.calls k A0 c0 l0 A1 c1 l1 _ _ ?s1 HC0.out ?s2 HC1.out HCS.out).mono ?_; (case s1 => exact Kd.C_below HR0.out HP.out.B); (case s2 => exact Kd.C_below HR1.out HP.out.B); rintro e W3 ⟨rfl, hb⟩; have n1 := Aside0.mk (HP.out.below hb); clear HP y0 y1; have HP := n1; clear n1; clear hb; have y0 : W3.cell? ⟨w.heap.size, 0, none⟩ = some (.slice A0 l0.length c0) := (blk_cell HP.out.Q 0).trans rfl; have y1 : W3.cell? ⟨w.heap.size, 1, none⟩ = some (.slice A1 l1.length c1) := (blk_cell HP.out.Q 1).trans rfl))
  clear y0 y1
  have HP0 := HP
  clear HP
  go_loopw [19] (fun i wr => ∃ j : Nat, j ≤ l1.length ∧ i = .int .i64 j ∧ Aside0 (CsAt w (.slice A0 l0.length c0) (.slice A1 l1.length c1) wr)) (fun i _ => l1.length - (intOf i).toNat)
  case atStart => exact ⟨0, Nat.zero_le _, rfl, HP0⟩
  case round =>
   clear HP0
   obtain ⟨j, hj, rfl, HP⟩ := hrel
   by_cases hlt : j < l1.length
   ·have hlt' : (j : Int) < (l1.length : Int) := by omega
    have y0 : wr.cell? ⟨w.heap.size, 0, none⟩ = some (.slice A0 l0.length c0) := (blk_cell HP.out.Q 0).trans rfl
    have y1 : wr.cell? ⟨w.heap.size, 1, none⟩ = some (.slice A1 l1.length c1) := (blk_cell HP.out.Q 1).trans rfl
    have HTR := Aside0.mk (HTT.out.tr j hlt)
    have HCT := Aside0.mk (HTT.out.ct j hlt)
    have HLO := Aside0.mk (HTT.out.lo j hlt)
    have hln := HTT.out.ln j hlt
    generalize T j = t at *
    go_upto_region 9 with (go_at_call 6; refine (tree_Translations.calls k A0 c0 l0 A1 c1 l1 j _ _ _ ?s1 HC0.out ?s2 HC1.out HTR.out).mono ?_; (case s1 => exact Kd.C_below HR0.out HP.out.B); (case s2 => exact Kd.C_below HR1.out HP.out.B); rintro e Wa ⟨v0, rfl, hR, hb⟩; obtain ⟨Aa, ca, rfl, hla, hCa⟩ := Kd.R_reads hR; have n1 := Aside0.mk (HP.out.below hb); clear HP y0 y1; have HP := n1; clear n1; clear hb hR; have y0 : Wa.cell? ⟨w.heap.size, 0, none⟩ = some (.slice A0 l0.length c0) := (blk_cell HP.out.Q 0).trans rfl; have y1 : Wa.cell? ⟨w.heap.size, 1, none⟩ = some (.slice A1 l1.length c1) := (blk_cell HP.out.Q 1).trans rfl)
    have HTC := Aside0.mk (show Kd.C (Kd.int .i64) Wa Aa t.length t ∧ t.length ≤ ca from ⟨hCa, hla⟩)
    clear hCa hla HTR
    go_wp2_with (first | (go_at_call 7; refine (slices_Contains_int_int.calls k Aa ca t j true _ ?s3 HTC.out.2 HCT.out).mono ?_; (case s3 => exact HTC.out.1); rintro e w' ⟨rfl, nd, rfl⟩))
    have HS0 := Aside0.mk (show SnAt Wa Wa.heap.size (sn l1 t 0) ((Wa.drewN nd).alloc (.map #[] 0)) from ⟨Mp.Is.made (Wa.drewN nd) _ _ _ _, below_alloc (pw_below_drewN (Below.refl _ _) nd) _, Nat.le_refl _⟩)
    clear HCT y0 y1
    generalize (Wa.drewN nd).alloc (.map #[] 0) = w0 at HS0 ⊢
    go_loopw [39] (fun i wr => ∃ m : Nat, m ≤ t.length ∧ i = .int .i64 m ∧ Aside0 (SnAt Wa Wa.heap.size (sn l1 t m) wr)) (fun i _ => t.length - (intOf i).toNat)
    case atStart => exact ⟨0, Nat.zero_le _, rfl, HS0⟩
    case round =>
     clear HS0
     obtain ⟨m, hm, rfl, HS⟩ := hrel
     by_cases hlt2 : m < t.length
     ·obtain ⟨q, hq1, hq2, hq3, hq4⟩ := HLO.out m hlt2
      obtain ⟨ad1, ea, z⟩ := Kd.at_int HTC.out.1 m (by omega) (by omega)
      cases ea
      rw [Int.toNat_natCast, hq1] at z
      replace z := (HS.out.B.cell (World.block_lt_of_cell? Wa _ z)).trans z
      have HTQ := Aside0.mk (HTT.out.tr q hq2)
      have HZ := Aside0.mk (HTT.out.sz q hq2)
      have HQ1 := Aside0.mk hq1
      have HQ3 := Aside0.mk hq3
      have HQ4 := Aside0.mk hq4
      clear hq1 hq3 hq4
      have HPW := Aside0.mk (HP.out.below HS.out.B)
      obtain ⟨ad, A9, c9, A10, c10, A12, c12, rfl, x0, x1, x2, x3, x4, x5, x6, x7, x8, x9, x10, x11, x12, _, _, _, _, _, _⟩ := at_T39 (Kd.C_below HR1.out HPW.out.B) q (by omega) (by omega)
      clear x0 x1 x3 x4 x5 x6 x7 x8 x9 x10 x11 x12
      rw [Int.toNat_natCast] at x2
      generalize T q = tq at *
      generalize hx : rd_T39 l1 q = x at *
      have HX := Aside0.mk hx
      clear hx
      have y0 : wr.cell? ⟨w.heap.size, 0, none⟩ = some (.slice A0 l0.length c0) := (blk_cell HPW.out.Q 0).trans rfl
      have y1 : wr.cell? ⟨w.heap.size, 1, none⟩ = some (.slice (some ad) l1.length c1) := (blk_cell HPW.out.Q 1).trans rfl
      obtain ⟨qq, hqq⟩ := tm_q1 x.f2 HZ.out
      have HQQ := Aside0.mk hqq
      clear hqq
      have hlt2' : (m : Int) < (t.length : Int) := by omega
      have hq2' : (q : Int) < (l1.length : Int) := by omega
      have e5 : decide ((q : Int) < 0) = false := decide_eq_false (by omega)
      have e6 : decide ((l1.length : Int) ≤ (q : Int)) = false := decide_eq_false (by omega)
      have e7 : decide (l1.length ≤ q) = false := decide_eq_false (by omega)
      go_upto_region 18 with (go_at_call 6; refine (tree_Translations.calls k A0 c0 l0 (some ad) c1 l1 q _ _ _ ?s1 HC0.out ?s2 HC1.out HTQ.out).mono ?_; (case s1 => exact Kd.C_below HR0.out HPW.out.B); (case s2 => exact Kd.C_below HR1.out HPW.out.B); rintro e Wb ⟨v1, rfl, hR, hb⟩; obtain ⟨Ab, cb, rfl, hlb, hCb⟩ := Kd.R_reads hR; have n1 := Aside0.mk (HS.out.below hb); clear HS; have HS := n1; clear n1; have n1 := Aside0.mk (HPW.out.below hb); clear HPW y0 y1; have HPW := n1; clear n1; have y1 : Wb.cell? ⟨w.heap.size, 1, none⟩ = some (.slice (some ad) l1.length c1) := (blk_cell HPW.out.Q 1).trans rfl; have n1 := (hb.cell (World.block_lt_of_cell? wr _ x2)).trans x2; clear x2 hb hR; have x2 := n1; clear n1)
      have HTB := Aside0.mk (show Kd.C (Kd.int .i64) Wb Ab tq.length tq ∧ tq.length ≤ cb from ⟨hCb, hlb⟩)
      clear hCb hlb HTQ e5 e6 e7 z
      go_wp2_with (first | (go_at_call 8; refine (slices_Equal_int_int.calls k (some ad1) ca t Ab cb tq true _ ?s4 HTC.out.2 ?s5 HTB.out.2 HQ3.out).mono ?_; (case s4 => exact Kd.C_below HTC.out.1 HS.out.B); (case s5 => exact HTB.out.1); rintro e w' ⟨rfl, nd2, rfl⟩; have n1 := Aside0.mk (HS.out.drewN nd2); clear HS; have HS := n1; clear n1; replace x2 : (Wb.drewN nd2).cell? _ = _ := x2; replace y1 : (Wb.drewN nd2).cell? _ = _ := y1) | (at_lookup; refine gate_guard (by rfl) ?_; dsimp only; refine Mp.wp_look rfl _ _ false rfl tm_k1 Tryd.underlying33 (tm_z4 _) E1_inj rfl HS.out.M x.f2 qq rfl HQQ.out ?_; simp only [Bool.false_eq_true, if_false, lk_bool, HQ4.out]) | (at_mapUpdate; refine Mp.wp_put (V := VB) rfl _ _ _ rfl tm_k1 Tryd.underlying33 E1_inj rfl HS.out.M x.f2 true qq rfl rfl HQQ.out ?_; intro w2 hm2 hg2; have HS2 := Aside0.mk (HS.out.put hm2 hg2); clear hm2 hg2))
      go_round
      case measure => simp [intOf]; omega
      case rel => exact ⟨m + 1, by omega, by simp, ⟨by show SnAt Wa _ (((rd_T39 l1 (rd t m)).f2, true) :: sn l1 t m) _; rw [HQ1.out, HX.out]; exact HS2.out⟩⟩
     ·obtain rfl : m = t.length := by omega
      have hlt2' : ¬ ((t.length : Int) < (t.length : Int)) := by omega
      go_wp2_with fail
      go_round
      case measure => simp [intOf]; omega
      case rel => exact ⟨j + 1, by omega, by simp, ⟨HP.out.below HS.out.B⟩⟩
   ·obtain rfl : j = l1.length := by omega
    have hlt' : ¬ ((l1.length : Int) < (l1.length : Int)) := by omega
    go_wp2_with fail
    go_ret
    exact ⟨rfl, HP.out.B⟩
end Go.Proofs.YtcgmieeojngceaaDoor.PTreeTranslates
