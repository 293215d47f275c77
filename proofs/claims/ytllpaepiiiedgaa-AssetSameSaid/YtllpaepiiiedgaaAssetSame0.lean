/- The law's own function: what AssetSame answers, told by what its callees answer. -/
import Derived.Test.YtllpaepiiiedgaaPAssetSamex9
import Derived.Test.YtllpaepiiiedgaaPAssetSamex10
namespace Go.Proofs.Ytllpaepiiiedgaa.PAssetSame
open Go.RowKit Go.Proofs.YtllpaepiiiedgaaW.PrintWords Go.Proofs.YtllpaepiiiedgaaW.PrintLast Go.Proofs.YtllpaepiiiedgaaW.PrintMore
attribute [local go_sem] max2_int min2_int max_two min_two max_three min_three max_four min_four   -- for this text's walks alone
set_option linter.unusedVariables false
set_option linter.unusedSimpArgs false
def readTokens (k : Nat) (a0 : Int) (s : ByteArray) : Option (List S33 × Int × Int) := if a0 = 2 then asset_ScriptTokens.f k s else asset_StyleTokens.f k s
def mastkeep2_AssetSame.f (k : Nat) (a0 : Int) (a1 : ByteArray) : Option Bool :=
  (asset_Minify.f k a0 a1).bind fun t => if t.2.2 = 0 then
    (readTokens k a0 a1).bind fun l => (readTokens k a0 t.1).bind fun m => (asset_Smaller.f k a0 l.1).bind fun a => (asset_Minify.f k a0 t.1).bind fun u =>
      if l.2.2 = 0 ∧ m.2.2 = 0 ∧ a.2 = 0 ∧ u.2.2 = 0 then (asset_Token.f k a.1 m.1).bind fun q => if q = true ∧ u.1 = t.1 ∧ t.1.size ≤ a1.size then some true else none
      else none
    else if t.1 = ⟨#[]⟩ then some true else none
set_option maxHeartbeats 4000000 in
set_option maxRecDepth 100000 in
theorem mastkeep2_AssetSame.calls (k : Nat) (a0 : Int) (a1 : ByteArray) (r : Bool) (w : World) (h : mastkeep2_AssetSame.f k a0 a1 = some r) (hG : Gh.G w) :
    Calls Try.prog 3 #[.int .i64 a0, .string a1] w fun e w' => e = .returned (.bool r) ∧ Below w.heap.size w w' := by
  unfold mastkeep2_AssetSame.f at h
  obtain ⟨⟨t, p, et⟩, hM, h1⟩ := Option.bind_eq_some_iff.1 h
  dsimp only at h1
  have HM := Aside0.mk hM
  clear hM h
  by_cases he : et = 0
  · subst he
    rw [if_pos rfl] at h1
    obtain ⟨⟨l, pl, e1⟩, hL, h2⟩ := Option.bind_eq_some_iff.1 h1
    clear h1
    obtain ⟨⟨m, pm, e2⟩, hm, h3⟩ := Option.bind_eq_some_iff.1 h2
    clear h2
    obtain ⟨⟨a, e3⟩, hA, h4⟩ := Option.bind_eq_some_iff.1 h3
    clear h3
    obtain ⟨⟨u, pu, e4⟩, hU, h5⟩ := Option.bind_eq_some_iff.1 h4
    clear h4
    dsimp only at h5 hm hA hU
    by_cases h0 : e1 = 0 ∧ e2 = 0 ∧ e3 = 0 ∧ e4 = 0
    case neg => rw [if_neg h0] at h5; cases h5
    rw [if_pos h0] at h5
    obtain ⟨rfl, rfl, rfl, rfl⟩ := h0
    obtain ⟨q, hQ, h6⟩ := Option.bind_eq_some_iff.1 h5
    clear h5
    by_cases h7 : q = true ∧ u = t ∧ t.size ≤ a1.size
    case neg => rw [if_neg h7] at h6; cases h6
    rw [if_pos h7] at h6
    obtain rfl := Option.some.inj h6
    clear h6
    obtain ⟨rfl, rfl, hsz⟩ := h7
    have HL := Aside0.mk hL
    have HMM := Aside0.mk hm
    have HA := Aside0.mk hA
    have HU := Aside0.mk hU
    have HQ := Aside0.mk hQ
    have hsz' : (u.size : Int) ≤ (a1.size : Int) := by omega
    have hs1 := eq_true hsz'
    have hs2 := decide_eq_true hsz'
    have hs3 := eq_true hsz
    clear hL hm hA hU hQ hsz hsz'
    by_cases hk : a0 = 2
    · have hk1 : (a0 == 2) = true := beq_iff_eq.2 hk
      unfold readTokens at HL HMM
      rw [if_pos hk] at HL HMM
      clear hk
      go_enter Try.func3, Try.ntmps3
      go_wp2_with fail
      refine (mastkeep2_awakeAsset.calls true w rfl).mono ?_
      rintro e w1 ⟨rfl, hb1⟩
      have HB1 := Aside0.mk hb1
      clear hb1
      go_wp2_with fail
      refine (asset_Minify.calls k a0 a1 u p 0 w1 HM.out (hG.step HB1.out)).mono ?_
      rintro e w2 ⟨rfl, hb2⟩
      have HB2 := Aside0.mk (below_step HB1.out hb2)
      clear hb2 HB1
      go_wp2_with fail
      refine (asset_ScriptTokens.calls k a1 l pl 0 w2 HL.out (hG.step HB2.out)).mono ?_
      rintro e w3 ⟨v3, rfl, hr3, hb3⟩
      obtain ⟨A3, c3, rfl, hc3, hC3⟩ := Kd.R_reads hr3
      have HC3 := Aside0.mk hc3
      have HR3 := Aside0.mk hC3
      have HB3 := Aside0.mk (below_step HB2.out hb3)
      clear hb3 hr3 hc3 hC3 HB2
      go_wp2_with fail
      refine (asset_ScriptTokens.calls k u m pm 0 w3 HMM.out (hG.step HB3.out)).mono ?_
      rintro e w4 ⟨v4, rfl, hr4, hb4⟩
      obtain ⟨A4, c4, rfl, hc4, hC4⟩ := Kd.R_reads hr4
      have HC4 := Aside0.mk hc4
      have HR4 := Aside0.mk hC4
      have HR34 := Aside0.mk (Kd.C_below HR3.out hb4)
      have HB4 := Aside0.mk (below_step HB3.out hb4)
      clear hb4 hr4 hc4 hC4 HB3
      go_wp2_with fail
      refine (asset_Smaller.calls k a0 A3 c3 l a 0 w4 HR34.out HC3.out HA.out (hG.step HB4.out)).mono ?_
      rintro e w5 ⟨v5, rfl, hr5, hb5⟩
      obtain ⟨A5, c5, rfl, hc5, hC5⟩ := Kd.R_reads hr5
      have HC5 := Aside0.mk hc5
      have HR5 := Aside0.mk hC5
      have HR45 := Aside0.mk (Kd.C_below HR4.out hb5)
      have HB5 := Aside0.mk (below_step HB4.out hb5)
      clear hb5 hr5 hc5 hC5 HB4
      go_wp2_with fail
      refine (asset_Minify.calls k a0 u u pu 0 w5 HU.out (hG.step HB5.out)).mono ?_
      rintro e w6 ⟨rfl, hb6⟩
      have HR56 := Aside0.mk (Kd.C_below HR5.out hb6)
      have HR46 := Aside0.mk (Kd.C_below HR45.out hb6)
      have HB6 := Aside0.mk (below_step HB5.out hb6)
      clear hb6 HB5
      go_wp2_with fail
      refine (asset_Token.calls k A5 c5 a A4 c4 m true w6 HR56.out HC5.out HR46.out HC4.out HQ.out).mono ?_
      rintro e w7 ⟨rfl, ⟨nd, rfl⟩⟩
      have HB7 := Aside0.mk (pw_below_drewN HB6.out nd)
      go_wp2_with fail
      go_ret
      exact ⟨rfl, HB7.out⟩
    · have hk1 : (a0 == 2) = false := beq_eq_false_iff_ne.2 hk
      unfold readTokens at HL HMM
      rw [if_neg hk] at HL HMM
      clear hk
      go_enter Try.func3, Try.ntmps3
      go_wp2_with fail
      refine (mastkeep2_awakeAsset.calls true w rfl).mono ?_
      rintro e w1 ⟨rfl, hb1⟩
      have HB1 := Aside0.mk hb1
      clear hb1
      go_wp2_with fail
      refine (asset_Minify.calls k a0 a1 u p 0 w1 HM.out (hG.step HB1.out)).mono ?_
      rintro e w2 ⟨rfl, hb2⟩
      have HB2 := Aside0.mk (below_step HB1.out hb2)
      clear hb2 HB1
      go_wp2_with fail
      refine (asset_StyleTokens.calls k a1 l pl 0 w2 HL.out (hG.step HB2.out)).mono ?_
      rintro e w3 ⟨v3, rfl, hr3, hb3⟩
      obtain ⟨A3, c3, rfl, hc3, hC3⟩ := Kd.R_reads hr3
      have HC3 := Aside0.mk hc3
      have HR3 := Aside0.mk hC3
      have HB3 := Aside0.mk (below_step HB2.out hb3)
      clear hb3 hr3 hc3 hC3 HB2
      go_wp2_with fail
      refine (asset_StyleTokens.calls k u m pm 0 w3 HMM.out (hG.step HB3.out)).mono ?_
      rintro e w4 ⟨v4, rfl, hr4, hb4⟩
      obtain ⟨A4, c4, rfl, hc4, hC4⟩ := Kd.R_reads hr4
      have HC4 := Aside0.mk hc4
      have HR4 := Aside0.mk hC4
      have HR34 := Aside0.mk (Kd.C_below HR3.out hb4)
      have HB4 := Aside0.mk (below_step HB3.out hb4)
      clear hb4 hr4 hc4 hC4 HB3
      go_wp2_with fail
      refine (asset_Smaller.calls k a0 A3 c3 l a 0 w4 HR34.out HC3.out HA.out (hG.step HB4.out)).mono ?_
      rintro e w5 ⟨v5, rfl, hr5, hb5⟩
      obtain ⟨A5, c5, rfl, hc5, hC5⟩ := Kd.R_reads hr5
      have HC5 := Aside0.mk hc5
      have HR5 := Aside0.mk hC5
      have HR45 := Aside0.mk (Kd.C_below HR4.out hb5)
      have HB5 := Aside0.mk (below_step HB4.out hb5)
      clear hb5 hr5 hc5 hC5 HB4
      go_wp2_with fail
      refine (asset_Minify.calls k a0 u u pu 0 w5 HU.out (hG.step HB5.out)).mono ?_
      rintro e w6 ⟨rfl, hb6⟩
      have HR56 := Aside0.mk (Kd.C_below HR5.out hb6)
      have HR46 := Aside0.mk (Kd.C_below HR45.out hb6)
      have HB6 := Aside0.mk (below_step HB5.out hb6)
      clear hb6 HB5
      go_wp2_with fail
      refine (asset_Token.calls k A5 c5 a A4 c4 m true w6 HR56.out HC5.out HR46.out HC4.out HQ.out).mono ?_
      rintro e w7 ⟨rfl, ⟨nd, rfl⟩⟩
      have HB7 := Aside0.mk (pw_below_drewN HB6.out nd)
      go_wp2_with fail
      go_ret
      exact ⟨rfl, HB7.out⟩
  · rw [if_neg he] at h1
    by_cases ht : t = ⟨#[]⟩
    case neg => rw [if_neg ht] at h1; cases h1
    rw [if_pos ht] at h1
    obtain rfl := Option.some.inj h1
    clear h1
    subst ht
    have he1 : (et == 0) = false := beq_eq_false_iff_ne.2 he
    have he2 : (et != 0) = true := bne_iff_ne.2 he
    clear he
    go_enter Try.func3, Try.ntmps3
    go_wp2_with fail
    refine (mastkeep2_awakeAsset.calls true w rfl).mono ?_
    rintro e w1 ⟨rfl, hb1⟩
    have HB1 := Aside0.mk hb1
    clear hb1
    go_wp2_with fail
    refine (asset_Minify.calls k a0 a1 _ p et w1 HM.out (hG.step HB1.out)).mono ?_
    rintro e w2 ⟨rfl, hb2⟩
    have HB2 := Aside0.mk (below_step HB1.out hb2)
    clear hb2 HB1
    go_wp2_with fail
    go_ret
    exact ⟨rfl, HB2.out⟩
end Go.Proofs.Ytllpaepiiiedgaa.PAssetSame
