/- ImageFits: the row: what came in is opened, the walk and the pure law are joined; no condition. -/
import Derived.Test.YthagabjcoknogaaRows
import Derived.Test.YthagabjcoknogaaOpens
import Derived.Test.YthagabjcoknogaaPImageFitsx7
import Derived.Test.YthagabjcoknogaaPureImageFits
import Derived.WalkKit
import Derived.ProofKit
import Derived.OpenShut
import Derived.ShutString
import Derived.ChangeOld
import Derived.Below
import Derived.SizedLaws
namespace Go.Proofs.Ythagabjcoknogaa.imageFits
open Go.ChangeShapes Go.WideShapes Go.ChangeAt Go.RowKit Go.Proofs.Ythagabjcoknogaa.PImageFits Go.Proofs.YthagabjcoknogaaW.PrintWords Go.Proofs.YthagabjcoknogaaO
open Go.ChangeMaps (open_string shut_string)
set_option linter.unusedVariables false
set_option maxRecDepth 100000
theorem i64r {x : Int} (h : wfInt .i64 x) : -9223372036854775808 ≤ x ∧ x < 9223372036854775808 := by
  unfold wfInt at h; simp only [Lit.wf, IntKind.min, IntKind.max, IntKind.signed, IntKind.bits, Bool.and_eq_true, decide_eq_true_eq, if_true] at h; omega
def wf29 (x : (Int × (Int × List Int))) : Prop := (wfInt .i64) x.1 ∧ (wfInt .i64) x.2.1 ∧ (wfSl 8 (wfInt .i64)) x.2.2
theorem opens29 (n : Nat) : Opens Try.prog (Kd.iso (Kd.pair (Kd.int .i64) (Kd.pair (Kd.int .i64) (Kd.slice 3 (Kd.int .i64)))) (fun x : (Int × (Int × List Int)) => x)) wf29 29 n := by
  have h : OpensF Try.prog (Kd.pair (Kd.int .i64) (Kd.pair (Kd.int .i64) (Kd.slice 3 (Kd.int .i64)))) (fun p => (wfInt .i64) p.1 ∧ (fun p => (wfInt .i64) p.1 ∧ (wfSl 8 (wfInt .i64)) p.2) p.2) [{ name := "Width", type := 3, offset := 0, embedded := false, tag := "", pkgPath := "", byteOffset := 0 }, { name := "Height", type := 3, offset := 1, embedded := false, tag := "", pkgPath := "", byteOffset := 8 }, { name := "Levels", type := 27, offset := 2, embedded := false, tag := "", pkgPath := "", byteOffset := 16 }] 0 n := (opensF_cons (off2 := 1) (opens_int Try.underlying3 n) (opensF_cons (off2 := 2) (opens_int Try.underlying3 n) (opensF_one ((opens_slice (b := 8) Try.underlying27 (by kernel_rfl) (by kernel_rfl) (opens_int Try.underlying3 n)).mono (Nat.le_succ _)) rfl (by kernel_rfl)) rfl (by kernel_rfl) rfl) rfl (by kernel_rfl) rfl)
  exact (opens_struct (wf := (fun p => (wfInt .i64) p.1 ∧ (fun p => (wfInt .i64) p.1 ∧ (wfSl 8 (wfInt .i64)) p.2) p.2)) (fun x : (Int × (Int × List Int)) => x) (fun p => p) (fun _ => rfl) Try.underlying29 (by kernel_rfl) h).mono (Nat.le_succ n)
def wf31 (x : (Int × (Int × Int))) : Prop := (wfInt .i64) x.1 ∧ (wfInt .i64) x.2.1 ∧ (wfInt .i64) x.2.2
theorem opens31 (n : Nat) : Opens Try.prog (Kd.iso (Kd.pair (Kd.int .i64) (Kd.pair (Kd.int .i64) (Kd.int .i64))) (fun x : (Int × (Int × Int)) => x)) wf31 31 n := by
  have h : OpensF Try.prog (Kd.pair (Kd.int .i64) (Kd.pair (Kd.int .i64) (Kd.int .i64))) (fun p => (wfInt .i64) p.1 ∧ (fun p => (wfInt .i64) p.1 ∧ (wfInt .i64) p.2) p.2) [{ name := "Way", type := 3, offset := 0, embedded := false, tag := "", pkgPath := "", byteOffset := 0 }, { name := "Width", type := 3, offset := 1, embedded := false, tag := "", pkgPath := "", byteOffset := 8 }, { name := "Height", type := 3, offset := 2, embedded := false, tag := "", pkgPath := "", byteOffset := 16 }] 0 n := (opensF_cons (off2 := 1) (opens_int Try.underlying3 n) (opensF_cons (off2 := 2) (opens_int Try.underlying3 n) (opensF_one (opens_int Try.underlying3 n) rfl (by kernel_rfl)) rfl (by kernel_rfl) rfl) rfl (by kernel_rfl) rfl)
  exact (opens_struct (wf := (fun p => (wfInt .i64) p.1 ∧ (fun p => (wfInt .i64) p.1 ∧ (wfInt .i64) p.2) p.2)) (fun x : (Int × (Int × Int)) => x) (fun p => p) (fun _ => rfl) Try.underlying31 (by kernel_rfl) h).mono (Nat.le_succ n)
theorem own : ownKnob Try.prog.godebug = none := by kernel_rfl
theorem lifted (os : Os) (started : os.Started) (H : Type) (enc : TypeId × Value → H) :
    ReturnsInHanded {} Try.checked os 4 .any (Rows.imageFitsSpec.pre6 enc Try.prog Try.f4 Rows.imageFitsRow.domain false) (Rows.imageFitsSpec.post enc Try.prog Try.f4 false true false false) := by
  refine returnsInHanded_of_change_sized (C := Try.checked) own started (by kernel_rfl) Try.func4
    (ChangeSpec.witness6 (enc := enc) (C := Try.checked) false ⟨#[], #[.agg #[.int .i64 0, .int .i64 0, .slice none 0 0], .agg #[.int .i64 0, .int .i64 0, .int .i64 0]], []⟩ 8 (by kernel_rfl) (by kernel_rfl) (by kernel_rfl) (by kernel_rfl)) ?_
  intro W base args ds gs before hval0 hW hcnd hsz0 _
  have hval : ∀ (j : Nat) t v, Try.f4.params[j]? = some t → args[j]? = some v → Value.okWide Try.prog W .any base t v := hval0
  have hsz : (DataW.weightsEach Try.prog (Try.f4.params.toList ++ Rows.imageFitsSpec.plain.varTypes Try.prog) (ds ++ gs)).all (· ≤ reachBytes) = true := hsz0
  have hW' := hW
  obtain ⟨p, q, hA0, hV, rfl, hfz, hnd⟩ := hW
  have hA : DataW.TrodAll enc Try.prog W 0 (fun _ => true) true Try.f4.params.toList args.toList ds p := hA0
  rw [Try.params4] at hA hval hsz
  obtain ⟨v0, vs0, d0, ds0, p0, q0, hargs, rfl, rfl, h0, r0⟩ := trodAll_cons hA
  obtain ⟨v1, vs1, d1, ds1, p1, q1, rfl, rfl, rfl, h1, r1⟩ := trodAll_cons r0
  obtain ⟨rfl, rfl, rfl⟩ := trodAll_nil r1
  obtain rfl : args = #[v0, v1] := by cases args; simp_all
  obtain ⟨rfl, rfl⟩ := trodVars_none hV
  have hm0 : ∀ m ∈ d0.weights Try.prog 29, m ≤ reachBytes := fun m hm => by simpa using List.all_eq_true.1 hsz m (by simp [DataW.weightsEach, hm])
  have g0 := h0
  obtain ⟨cs0, rfl, hcs0⟩ := okWide_struct Try.underlying29 (hval 0 29 v0 rfl rfl)
  obtain ⟨y0, hk0, hw0⟩ := open_arg (P := Try.prog) opens29 h0 hm0
  obtain ⟨a0_0, a0_1, l0_2⟩ := y0
  obtain ⟨w0_0, w0_1, w0_2⟩ := hw0
  obtain ⟨_, _, he0, rfl, ⟨_, _, hq0_1, rfl, ⟨A0_2, c0_2, rfl, hc0_2, hr0_2⟩⟩⟩ := hk0
  try subst hq0_1
  have ev0 : (Value.agg cs0) = .agg #[.int .i64 a0_0, .int .i64 a0_1, .slice A0_2 l0_2.length c0_2] := by
    have hx : cs0.toList = [.int .i64 a0_0, .int .i64 a0_1, .slice A0_2 l0_2.length c0_2] := by simpa [Value.cells] using he0
    have : cs0 = #[.int .i64 a0_0, .int .i64 a0_1, .slice A0_2 l0_2.length c0_2] := by rw [← Array.toArray_toList (xs := cs0), hx]
    rw [this]
  have hm1 : ∀ m ∈ d1.weights Try.prog 31, m ≤ reachBytes := fun m hm => by simpa using List.all_eq_true.1 hsz m (by simp [DataW.weightsEach, hm])
  have g1 := h1
  obtain ⟨cs1, rfl, hcs1⟩ := okWide_struct Try.underlying31 (hval 1 31 v1 rfl rfl)
  obtain ⟨y1, hk1, hw1⟩ := open_arg (P := Try.prog) opens31 h1 hm1
  obtain ⟨a1_0, a1_1, a1_2⟩ := y1
  obtain ⟨w1_0, w1_1, w1_2⟩ := hw1
  obtain ⟨_, _, he1, rfl, ⟨_, _, hq1_1, rfl, rfl⟩⟩ := hk1
  try subst hq1_1
  have ev1 : (Value.agg cs1) = .agg #[.int .i64 a1_0, .int .i64 a1_1, .int .i64 a1_2] := by
    have hx : cs1.toList = [.int .i64 a1_0, .int .i64 a1_1, .int .i64 a1_2] := by simpa [Value.cells] using he1
    have : cs1 = #[.int .i64 a1_0, .int .i64 a1_1, .int .i64 a1_2] := by rw [← Array.toArray_toList (xs := cs1), hx]
    rw [this]
  have hlt := hW'.lt
  have hpure := Pure.ImageFits a0_0 a0_1 l0_2 a1_0 a1_1 a1_2
  obtain ⟨k, hk⟩ := hpure
  rw [ev0, ev1]
  refine (PImageFits.mastkeep2_ImageFits.calls _ a0_0 a0_1 A0_2 c0_2 l0_2 a1_0 a1_1 a1_2 true W hr0_2 hc0_2 hk).mono fun e W' ⟨he, bel⟩ => ?_
  subst he
  rw [← ev0, ← ev1]
  have st0 : ∀ {v : Value} {d : DataW H} {ps : List MemPlace}, DataW.Trod enc Try.prog W 0 (fun _ => true) true 29 v d ps → (∀ x ∈ ps, x.block < W.heap.size) → DataW.Trod enc Try.prog W' 0 (fun b => decide (b < W.heap.size)) true 29 v d ps :=
    fun T hp => WideElems.Trod_stays (P := Try.prog) (by kernel_rfl) (by kernel_rfl) (of_decide_eq_true (by kernel_rfl)) T (fun x hx => bel.same (hp x hx)) (fun x hx => by simpa using hp x hx)
  have st1 : ∀ {v : Value} {d : DataW H} {ps : List MemPlace}, DataW.Trod enc Try.prog W 0 (fun _ => true) true 31 v d ps → (∀ x ∈ ps, x.block < W.heap.size) → DataW.Trod enc Try.prog W' 0 (fun b => decide (b < W.heap.size)) true 31 v d ps :=
    fun T hp => WideElems.Trod_stays (P := Try.prog) (by kernel_rfl) (by kernel_rfl) (of_decide_eq_true (by kernel_rfl)) T (fun x hx => bel.same (hp x hx)) (fun x hx => by simpa using hp x hx)
  exact ⟨_, rfl, _, _, _, [], _, [], hW', trodAll_mk1 (shut_bool Try.underlying4 _), (trodAll_cons_mk (st0 g0 (fun x hx => hlt x (by simp [hx]))) (trodAll_cons_mk (st1 g1 (fun x hx => hlt x (by simp [hx]))) trodAll_mk0)), rfl, bel.frame _, fun h => by cases h⟩
theorem proved : Rows.ImageFitsSaid :=
  OpenClaim.holds_of_wide 4 Try.f4 rfl rfl rfl rfl rfl rfl rfl ⟨rfl, rfl, rfl, rfl, rfl⟩ rfl rfl rfl rfl rfl (by kernel_rfl) Try.func4 (by kernel_rfl)
    (of_decide_eq_true (by kernel_rfl)) (by unfold Func.isWrapper; first | (rw [if_pos (by decide +kernel)]; kernel_rfl) | (rw [if_neg (by decide +kernel)]; exact ⟨rfl, rfl⟩))
    (fun os started H enc _ => lifted os started H enc)
#print axioms proved
end Go.Proofs.Ythagabjcoknogaa.imageFits
namespace Go.Proofs.Ythagabjcoknogaa
/-- The row, under a short name, for the claim. -/
theorem imageFits_holds : Rows.ImageFitsSaid := imageFits.proved
end Go.Proofs.Ythagabjcoknogaa
