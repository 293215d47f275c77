/- AssetSame: the row: what came in is opened, the walk and the pure law are joined; no condition. -/
import Derived.Test.YtllpaepiiiedgaaRows
import Derived.Test.YtllpaepiiiedgaaOpens
import Derived.Test.YtllpaepiiiedgaaAssetSame0
import Derived.Test.YtllpaepiiiedgaaPureAssetSame
import Derived.WalkKit
import Derived.ProofKit
import Derived.OpenShut
import Derived.ShutString
import Derived.ChangeOld
import Derived.Below
import Derived.SizedLaws
import Derived.HandedShaped
import Derived.Test.YtllpaepiiiedgaaSPlain
import Derived.Test.YtllpaepiiiedgaaGhost
namespace Go.Proofs.Ytllpaepiiiedgaa.assetSame
open Go.ChangeShapes Go.WideShapes Go.ChangeAt Go.RowKit Go.Proofs.Ytllpaepiiiedgaa.PAssetSame Go.Proofs.YtllpaepiiiedgaaW.PrintWords Go.Proofs.YtllpaepiiiedgaaO
open Go.ChangeMaps (open_string shut_string)
set_option linter.unusedVariables false
set_option maxRecDepth 100000
theorem i64r {x : Int} (h : wfInt .i64 x) : -9223372036854775808 ≤ x ∧ x < 9223372036854775808 := by
  unfold wfInt at h; simp only [Lit.wf, IntKind.min, IntKind.max, IntKind.signed, IntKind.bits, Bool.and_eq_true, decide_eq_true_eq, if_true] at h; omega
theorem own : ownKnob Try.prog.godebug = none := by kernel_rfl
theorem lifted (os : Os) (started : os.Started) (H : Type) (enc : TypeId × Value → H) :
    ReturnsInHanded {} Try.checked os 3 .any (Rows.assetSameSpec.pre6 enc Try.prog Try.f3 Rows.assetSameRow.domain false) (Rows.assetSameSpec.post enc Try.prog Try.f3 false true false false) := by
  refine returnsInHanded_of_change_shaped (C := Try.checked) own started (by kernel_rfl) Try.func3
    (ChangeSpec.witness6 (enc := enc) (C := Try.checked) false ⟨#[], #[.int .i64 0, .string ⟨#[]⟩], []⟩ 8 (by kernel_rfl) (by kernel_rfl) (by kernel_rfl) (by kernel_rfl)) ?_
  intro W base args ds gs before hval0 hW hcnd hsz0 hsh _
  have hval : ∀ (j : Nat) t v, Try.f3.params[j]? = some t → args[j]? = some v → Value.okWide Try.prog W .any base t v := hval0
  have hsz : (DataW.weightsEach Try.prog (Try.f3.params.toList ++ Rows.assetSameSpec.plain.varTypes Try.prog) (ds ++ gs)).all (· ≤ reachBytes) = true := hsz0
  have hW' := hW
  obtain ⟨p, q, hA0, hV, rfl, hfz, hnd⟩ := hW
  have hA : DataW.TrodAll enc Try.prog W 0 (fun _ => true) true Try.f3.params.toList args.toList ds p := hA0
  rw [Try.params3] at hA hval hsz
  obtain ⟨v0, vs0, d0, ds0, p0, q0, hargs, rfl, rfl, h0, r0⟩ := trodAll_cons hA
  obtain ⟨v1, vs1, d1, ds1, p1, q1, rfl, rfl, rfl, h1, r1⟩ := trodAll_cons r0
  obtain ⟨rfl, rfl, rfl⟩ := trodAll_nil r1
  obtain rfl : args = #[v0, v1] := by cases args; simp_all
  obtain ⟨rfl, rfl⟩ := trodVars_none hV
  have hm0 : ∀ m ∈ d0.weights Try.prog 3, m ≤ reachBytes := fun m hm => by simpa using List.all_eq_true.1 hsz m (by simp [DataW.weightsEach, hm])
  have g0 := h0
  obtain ⟨a0, rfl, rfl, rfl, w0⟩ := open_int Try.underlying3 (hval 0 3 v0 rfl rfl) h0
  have hm1 : ∀ m ∈ d1.weights Try.prog 9, m ≤ reachBytes := fun m hm => by simpa using List.all_eq_true.1 hsz m (by simp [DataW.weightsEach, hm])
  have g1 := h1
  obtain ⟨a1, rfl, rfl, rfl, y1⟩ := open_string Try.underlying9 (hval 1 9 v1 rfl rfl) h1
  have w1 : wfStr a1 := by
    have z := sized_string hsz (j := 1) (t := 9) rfl rfl
    rw [Array.length_toList] at z
    exact z
  have hlt := hW'.lt
  have hpure := AssetSame a0 a1
  obtain ⟨k, hk⟩ := hpure
  refine (PAssetSame.mastkeep2_AssetSame.calls _ a0 a1 true W  hk ⟨Shelf.Try.laysM219.s1_3 W hsh⟩).mono fun e W' ⟨he, bel⟩ => ?_
  subst he
  have st0 : ∀ {v : Value} {d : DataW H} {ps : List MemPlace}, DataW.Trod enc Try.prog W 0 (fun _ => true) true 3 v d ps → (∀ x ∈ ps, x.block < W.heap.size) → DataW.Trod enc Try.prog W' 0 (fun b => decide (b < W.heap.size)) true 3 v d ps :=
    fun T hp => WideElems.Trod_stays (P := Try.prog) (by kernel_rfl) (by kernel_rfl) (of_decide_eq_true (by kernel_rfl)) T (fun x hx => bel.same (hp x hx)) (fun x hx => by simpa using hp x hx)
  have st1 : ∀ {v : Value} {d : DataW H} {ps : List MemPlace}, DataW.Trod enc Try.prog W 0 (fun _ => true) true 9 v d ps → (∀ x ∈ ps, x.block < W.heap.size) → DataW.Trod enc Try.prog W' 0 (fun b => decide (b < W.heap.size)) true 9 v d ps :=
    fun T hp => WideElems.Trod_stays (P := Try.prog) (by kernel_rfl) (by kernel_rfl) (of_decide_eq_true (by kernel_rfl)) T (fun x hx => bel.same (hp x hx)) (fun x hx => by simpa using hp x hx)
  exact ⟨_, rfl, _, _, _, [], _, [], hW', trodAll_mk1 (shut_bool Try.underlying4 _), (trodAll_cons_mk (st0 g0 (fun x hx => hlt x (by simp [hx]))) (trodAll_cons_mk (st1 g1 (fun x hx => hlt x (by simp [hx]))) trodAll_mk0)), rfl, bel.frame _, fun h => by cases h⟩
theorem proved : Rows.AssetSameSaid :=
  OpenClaim.holds_of_wide 3 Try.f3 rfl rfl rfl rfl rfl rfl rfl ⟨rfl, rfl, rfl, rfl, rfl⟩ rfl rfl rfl rfl rfl (by kernel_rfl) Try.func3 (by kernel_rfl)
    (of_decide_eq_true (by kernel_rfl)) (by unfold Func.isWrapper; first | (rw [if_pos (by decide +kernel)]; kernel_rfl) | (rw [if_neg (by decide +kernel)]; exact ⟨rfl, rfl⟩))
    (fun os started H enc _ => lifted os started H enc)
#print axioms proved
end Go.Proofs.Ytllpaepiiiedgaa.assetSame
namespace Go.Proofs.Ytllpaepiiiedgaa
/-- The row, under a short name, for the claim. -/
theorem assetSame_holds : Rows.AssetSameSaid := assetSame.proved
end Go.Proofs.Ytllpaepiiiedgaa
