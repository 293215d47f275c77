/- AssetJoined: the row: what came in is opened, the walk and the pure law are joined; no condition. -/
import Derived.Test.YthagabjcoknogaaDoorRows
import Derived.Test.YthagabjcoknogaaDoorCards
import Derived.Test.YthagabjcoknogaaDoorTie
import Derived.Test.YthagabjcoknogaaDoorOpens
import Derived.Test.YthagabjcoknogaaDoorPAssetJoinedx8
import Derived.Test.YthagabjcoknogaaDoorPureAssetJoined
import Derived.WalkKit
import Derived.ProofKit
import Derived.OpenShut
import Derived.ShutString
import Derived.ChangeOld
import Derived.Below
import Derived.SizedLaws
import Derived.LaidMore
import Derived.Lay
import Derived.SevenTiedAt
import Derived.Stop.Joined
import Derived.Deep.DeepHandedRow
namespace Go.Proofs.YthagabjcoknogaaDoor.assetJoined
open Go.ChangeShapes Go.WideShapes Go.ChangeAt Go.RowKit Go.Proofs.YthagabjcoknogaaDoor.PAssetJoined Go.Proofs.YthagabjcoknogaaDoorW.PrintWords Go.Proofs.YthagabjcoknogaaDoorO
open Go.ChangeMaps (open_string shut_string)
set_option linter.unusedVariables false
set_option maxRecDepth 100000
theorem i64r {x : Int} (h : wfInt .i64 x) : -9223372036854775808 ≤ x ∧ x < 9223372036854775808 := by
  unfold wfInt at h; simp only [Lit.wf, IntKind.min, IntKind.max, IntKind.signed, IntKind.bits, Bool.and_eq_true, decide_eq_true_eq, if_true] at h; omega
def wf41 (x : S41) : Prop := wfStr x.f0 ∧ wfStr x.f1
theorem opens41 (n : Nat) : Opens Tryd.prog (Kd.iso (Kd.pair Kd.string Kd.string) (fun x : S41 => (x.f0, x.f1))) wf41 41 n := by
  have h : OpensF Tryd.prog (Kd.pair Kd.string Kd.string) (fun p => wfStr p.1 ∧ wfStr p.2) [{ name := "Path", type := 9, offset := 0, embedded := false, tag := "", pkgPath := "", byteOffset := 0 }, { name := "Body", type := 9, offset := 1, embedded := false, tag := "", pkgPath := "", byteOffset := 16 }] 0 n := (opensF_cons (off2 := 1) (opens_str Tryd.underlying9 n) (opensF_one (opens_str Tryd.underlying9 n) rfl (by kernel_rfl)) rfl (by kernel_rfl) rfl)
  exact (opens_struct (wf := (fun p => wfStr p.1 ∧ wfStr p.2)) (fun x : S41 => (x.f0, x.f1)) (fun p => ⟨p.1, p.2⟩) (fun _ => rfl) Tryd.underlying41 (by kernel_rfl) h).mono (Nat.le_succ n)
theorem own : ownKnob Tryd.prog.godebug = none := by kernel_rfl
theorem laid_met (os : Os) (args : Array Value) : laidMetH Tryd.prog Rows.assetJoinedRow.laid ((World.laidAll Tryd.prog os Rows.assetJoinedRow.laid).forCall (fun _ _ => 0) ⟨#[], args, []⟩).memory := by
  rw [MakeChecks.laidMetH_plain _ _ _ (by kernel_rfl)]
  exact laidMet_laidAll _ (by kernel_rfl) (by kernel_rfl)
theorem reads (os : Os) {H : Type} (enc : TypeId × Value → H) : ∃ x, DataW.whole enc Tryd.prog ((World.laidAll Tryd.prog os Rows.assetJoinedRow.laid).forCall (fun _ _ => 0) ⟨#[], #[.slice none 0 0], []⟩).memory Tryd.f4.params.toList Rows.assetJoinedSpec.vars false (#[.slice none 0 0] : Array Value).toList 8 = some ([.nil], [], x) :=
  ⟨[], by kernel_rfl⟩
theorem contract (H : Type) (enc : TypeId × Value → H) (W : World) (base : Nat) (args : Array Value) (ds gs : List (DataW H)) (before : List MemPlace)
    (hval0 : ∀ (j : Nat) t v, Tryd.f4.params[j]? = some t → args[j]? = some v → Value.okWide Tryd.prog W .any base t v)
    (hW : DataW.Whole enc Tryd.prog Tryd.f4.params.toList Rows.assetJoinedSpec.vars false W args.toList ds gs before)
    (hsz0 : (DataW.weightsEach Tryd.prog (Tryd.f4.params.toList ++ (OpenSpec.ofChange Rows.assetJoinedSpec).bare.plain.varTypes Tryd.prog) (ds ++ gs)).all (· ≤ reachBytes) = true)
    (hlaid : laidMetH Tryd.prog Rows.assetJoinedRow.laid W) (hshape : W.ShapedOpen Tryd.prog) :
    Calls Tryd.prog 4 args W fun e W' => ∃ v, e = .returned v ∧ Rows.assetJoinedSpec.post enc Tryd.prog Tryd.f4 false true false false W args v W' := by
  have hval : ∀ (j : Nat) t v, Tryd.f4.params[j]? = some t → args[j]? = some v → Value.okWide Tryd.prog W .any base t v := hval0
  have hsz := hsz0
  have hW' := hW
  obtain ⟨p, q, hA0, hV, rfl, hfz, hnd⟩ := hW
  have hA : DataW.TrodAll enc Tryd.prog W 0 (fun _ => true) true Tryd.f4.params.toList args.toList ds p := hA0
  rw [Tryd.params4] at hA hval hsz
  obtain ⟨v0, vs0, d0, ds0, p0, q0, hargs, rfl, rfl, h0, r0⟩ := trodAll_cons hA
  obtain ⟨rfl, rfl, rfl⟩ := trodAll_nil r0
  obtain rfl : args = #[v0] := by cases args; simp_all
  obtain ⟨rfl, rfl⟩ := trodVars_none hV
  have hm0 : ∀ m ∈ d0.weights Tryd.prog 31, m ≤ reachBytes := fun m hm => by simpa using List.all_eq_true.1 hsz m (by simp [DataW.weightsEach, hm])
  have g0 := h0
  obtain ⟨A0, n0, c0, rfl⟩ := okWide_slice Tryd.underlying31 (hval 0 31 v0 rfl rfl)
  obtain ⟨l0, ⟨A0', c0', hcs0, hc0, hr0⟩, w0⟩ := open_arg (P := Tryd.prog) (fun n => ((opens_slice (b := 32) Tryd.underlying31 (by kernel_rfl) (by kernel_rfl) (opens41 n)).mono (Nat.le_succ _))) h0 hm0
  simp only [Value.cells, List.cons.injEq, Value.slice.injEq, and_true] at hcs0
  obtain ⟨rfl, rfl, rfl⟩ := hcs0
  have hlt := hW'.lt
  have hpure := Pure.AssetJoined l0 w0.2.1
  obtain ⟨k, hk⟩ := hpure
  refine (PAssetJoined.mastkeep2_AssetJoined.calls _ A0 c0 l0 true W hr0 hc0 hk).mono fun e W' ⟨he, bel⟩ => ?_
  subst he
  have st0 : ∀ {v : Value} {d : DataW H} {ps : List MemPlace}, DataW.Trod enc Tryd.prog W 0 (fun _ => true) true 31 v d ps → (∀ x ∈ ps, x.block < W.heap.size) → DataW.Trod enc Tryd.prog W' 0 (fun b => decide (b < W.heap.size)) true 31 v d ps :=
    fun T hp => WideElems.Trod_stays (P := Tryd.prog) (by kernel_rfl) (by kernel_rfl) (of_decide_eq_true (by kernel_rfl)) T (fun x hx => bel.same (hp x hx)) (fun x hx => by simpa using hp x hx)
  exact ⟨_, rfl, _, _, _, [], _, [], hW', trodAll_mk1 (shut_bool Tryd.underlying4 _), (trodAll_cons_mk (st0 g0 (fun x hx => hlt x (by simp [hx]))) trodAll_mk0), rfl, bel.frame _, fun h => by cases h⟩
theorem lifted (os : Os) (started : os.Started) (H : Type) (enc : TypeId × Value → H) (F : Stop.Interp) :
    ReturnsInHanded {} Tryd.checked os 4 .any ((OpenSpec.ofChange Rows.assetJoinedSpec).preRow enc Tryd.prog Tryd.f4 Rows.assetJoinedRow.domain false Rows.assetJoinedRow.laid) (((OpenSpec.ofChange Rows.assetJoinedSpec).at F).post enc Tryd.prog Tryd.f4 false true false false) := by
  obtain ⟨places, hx⟩ := reads os enc
  refine returnsInHanded_of_row (C := Tryd.checked) (s := OpenSpec.ofChange Rows.assetJoinedSpec) own started (by kernel_rfl) Tryd.func4
    (witness_row_at (enc := enc) (C := Tryd.checked) false (World.laidAll Tryd.prog os Rows.assetJoinedRow.laid) #[.slice none 0 0] (World.laidAll_os _ _ _) (by kernel_rfl) (by kernel_rfl) (by kernel_rfl)
      (OpenSpec.preRow_of_cond 8 hx (by kernel_rfl) (fun k hk => by cases hk) (by kernel_rfl) (laid_met os _))) ?_
  intro W base args ds gs before hval hW _ _ hsz hlaid hshape _
  exact contract H enc W base args ds gs before hval hW hsz hlaid hshape
theorem said : Rows.AssetJoinedSaid :=
  OpenClaim.holds_of_cond 4 Tryd.f4 rfl rfl rfl rfl rfl rfl rfl ⟨rfl, rfl, rfl, rfl, rfl⟩ rfl rfl rfl rfl rfl (by kernel_rfl) Tryd.func4 (by kernel_rfl)
    (of_decide_eq_true (by kernel_rfl)) (by unfold Func.isWrapper; first | (rw [if_pos (by decide +kernel)]; kernel_rfl) | (rw [if_neg (by decide +kernel)]; exact ⟨rfl, rfl⟩))
    (fun os started H enc _ F => by rw [OpenClaim.pre_eq_preRow]; exact lifted os started H enc F)
theorem plain_at : ∀ t ∈ [31], Tryd.prog.wantsStandIn t = false := by
  intro t ht
  simp only [List.mem_cons, List.not_mem_nil, or_false] at ht
  rcases ht with rfl <;> kernel_rfl
theorem plain (f : FuncId) (fn : Func) (hf : Tryd.pinned.checked.prog.funcNamed "masthead/mastkeep2.AssetJoined" = some f) (hfn : Tryd.pinned.checked.prog.funcs[f]? = some fn) :
    false = Tryd.pinned.checked.prog.looks [] ∧ ∀ (j : Nat) t, fn.params[j]? = some t → Tryd.pinned.checked.prog.wantsStandIn t = false := by
  obtain rfl : f = 4 := Option.some.inj ((show Tryd.prog.funcNamed "masthead/mastkeep2.AssetJoined" = some 4 by kernel_rfl).symm.trans hf) |>.symm
  obtain rfl : fn = Tryd.f4 := (Option.some.inj (Tryd.func4.symm.trans hfn)).symm
  refine ⟨by kernel_rfl, fun j t ht => ?_⟩
  rw [Tryd.params4] at ht
  exact plain_at t (by simpa using Array.mem_of_getElem? ht)
theorem card : Rows.AssetJoinedCardSaid :=
  Claim7.holds_tied_plain_at .later [] _ _ _ _ said (fun _ h => by cases h) (by kernel_rfl) (fun _ h => by cases h) assetJoined_row_tie rfl ⟨rfl, rfl⟩ (by kernel_rfl) rfl plain (by kernel_rfl)
#print axioms card
end Go.Proofs.YthagabjcoknogaaDoor.assetJoined
namespace Go.Proofs.YthagabjcoknogaaDoor
/-- The card, under a short name, for the claim. -/
theorem assetJoined_holds : Rows.AssetJoinedCardSaid := assetJoined.card
end Go.Proofs.YthagabjcoknogaaDoor
