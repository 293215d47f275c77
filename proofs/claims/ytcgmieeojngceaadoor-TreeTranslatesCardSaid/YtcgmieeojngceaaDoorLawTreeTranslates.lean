/- TreeTranslates: the row: what came in is opened, the walk and the pure law are joined; no condition. -/
import Derived.Test.YtcgmieeojngceaaDoorRows
import Derived.Test.YtcgmieeojngceaaDoorCards
import Derived.Test.YtcgmieeojngceaaDoorTie
import Derived.Test.YtcgmieeojngceaaDoorOpens
import Derived.Test.YtcgmieeojngceaaDoorScratchG
import Derived.Test.YtcgmieeojngceaaDoorPureTreeTranslates
import Derived.WalkKit
import Derived.ProofKit
import Derived.OpenShut
import Derived.ShutString
import Derived.ChangeOld
import Derived.Below
import Derived.SizedLaws
import Derived.LaidMore
import Derived.Lay
import Derived.SevenTiedAt
import Derived.Stop.Joined
import Derived.Deep.DeepHandedRow
namespace Go.Proofs.YtcgmieeojngceaaDoor.treeTranslates
open Go.ChangeShapes Go.WideShapes Go.ChangeAt Go.RowKit Go.Proofs.YtcgmieeojngceaaDoor.PTreeTranslates Go.Proofs.YtcgmieeojngceaaDoorW.PrintWords Go.Proofs.YtcgmieeojngceaaDoorO
open Go.ChangeMaps (open_string shut_string)
set_option linter.unusedVariables false
set_option maxRecDepth 100000
theorem i64r {x : Int} (h : wfInt .i64 x) : -9223372036854775808 ≤ x ∧ x < 9223372036854775808 := by
  unfold wfInt at h; simp only [Lit.wf, IntKind.min, IntKind.max, IntKind.signed, IntKind.bits, Bool.and_eq_true, decide_eq_true_eq, if_true] at h; omega
def wfP37 (wf : S37 → Prop) (p : (Int × (Bool × (Int × (ByteArray × (List S37 × List ByteArray)))))) : Prop := (wfInt .i64) p.1 ∧ wfBool p.2.1 ∧ (wfInt .i64) p.2.2.1 ∧ wfStr p.2.2.2.1 ∧ (wfSl 88 wf) p.2.2.2.2.1 ∧ (wfSl 16 wfStr) p.2.2.2.2.2
def wfN37 : Nat → S37 → Prop
  | 0, _ => False
  | n + 1, x => wfP37 (wfN37 n) (x.f0, x.f1, x.f2, x.f3, x.f4, x.f5)
def wf37 (x : S37) : Prop := ∃ n, wfN37 n x
def flds37 : List Field := [{ name := "Kind", type := 3, offset := 0, embedded := false, tag := "", pkgPath := "", byteOffset := 0 }, { name := "Bool", type := 4, offset := 1, embedded := false, tag := "", pkgPath := "", byteOffset := 8 }, { name := "Int", type := 3, offset := 2, embedded := false, tag := "", pkgPath := "", byteOffset := 16 }, { name := "Text", type := 9, offset := 3, embedded := false, tag := "", pkgPath := "", byteOffset := 24 }, { name := "Items", type := 35, offset := 4, embedded := false, tag := "", pkgPath := "", byteOffset := 40 }, { name := "Keys", type := 22, offset := 5, embedded := false, tag := "", pkgPath := "", byteOffset := 64 }]
theorem opensN37 : ∀ n, Opens Tryd.prog (Kd.upto F37 6 [9, 37] n) (wfN37 n) 37 n
  | 0 => opens_zero _ _ _
  | n + 1 => by
    have ih := opensN37 n
    have hsz : Tryd.prog.cellsOf 37 = (Kd.upto F37 6 [9, 37] n).sz := by rw [sz37 n]; kernel_rfl
    have hF : OpensF Tryd.prog (Kd.pair (Kd.int .i64) (Kd.pair Kd.bool (Kd.pair (Kd.int .i64) (Kd.pair Kd.string (Kd.pair (Kd.slice 37 (Kd.upto F37 6 [9, 37] n)) (Kd.slice 9 Kd.string)))))) (wfP37 (wfN37 n)) flds37 0 n := (opensF_cons (off2 := 1) (opens_int Tryd.underlying3 n) (opensF_cons (off2 := 2) (opens_bool Tryd.underlying4 n) (opensF_cons (off2 := 3) (opens_int Tryd.underlying3 n) (opensF_cons (off2 := 4) (opens_str Tryd.underlying9 n) (opensF_cons (off2 := 5) ((opens_slice (b := 88) Tryd.underlying35 hsz (by kernel_rfl) ih).mono (Nat.le_succ n)) (opensF_one ((opens_slice (b := 16) Tryd.underlying22 (by kernel_rfl) (by kernel_rfl) (opens_str Tryd.underlying9 n)).mono (Nat.le_succ _)) rfl (by kernel_rfl)) rfl (by kernel_rfl) rfl) rfl (by kernel_rfl) rfl) rfl (by kernel_rfl) rfl) rfl (by kernel_rfl) rfl) rfl (by kernel_rfl) rfl)
    exact opens_struct (wf := wfP37 (wfN37 n)) (fun x : S37 => (x.f0, x.f1, x.f2, x.f3, x.f4, x.f5)) (fun p => ⟨p.1, p.2.1, p.2.2.1, p.2.2.2.1, p.2.2.2.2.1, p.2.2.2.2.2⟩) (fun _ => rfl) Tryd.underlying37 (by kernel_rfl) hF
theorem opens37 (n : Nat) : Opens Tryd.prog k37 wf37 37 n := by
  intro H enc w base spare held fuel cs x hf h hw
  obtain ⟨y, hy, hwf⟩ := opensN37 fuel H enc w base spare held fuel cs x (Nat.le_refl _) h hw
  exact ⟨y, ⟨fuel, hy⟩, fuel, hwf⟩
def wf39 (x : S39) : Prop := wfStr x.f0 ∧ wfStr x.f1 ∧ wfStr x.f2 ∧ wfStr x.f3 ∧ (wfInt .i64) x.f4 ∧ wf37 x.f5 ∧ wfStr x.f6 ∧ (wfSl 16 wfStr) x.f7
theorem opensA39 (n : Nat) : Opens Tryd.prog (Kd.iso (Kd.pair Kd.string (Kd.pair Kd.string (Kd.pair Kd.string (Kd.pair Kd.string (Kd.pair (Kd.int .i64) (Kd.pair k37 (Kd.pair Kd.string (Kd.slice 9 Kd.string)))))))) (fun x : S39 => (x.f0, x.f1, x.f2, x.f3, x.f4, x.f5, x.f6, x.f7))) (fun x => (fun p => wfStr p.1 ∧ (fun p => wfStr p.1 ∧ (fun p => wfStr p.1 ∧ (fun p => wfStr p.1 ∧ (fun p => (wfInt .i64) p.1 ∧ (fun p => wf37 p.1 ∧ (fun p => wfStr p.1 ∧ (wfSl 16 wfStr) p.2) p.2) p.2) p.2) p.2) p.2) p.2) ((fun x : S39 => (x.f0, x.f1, x.f2, x.f3, x.f4, x.f5, x.f6, x.f7)) x)) 39 (n + 1) := by
  have h : OpensF Tryd.prog (Kd.pair Kd.string (Kd.pair Kd.string (Kd.pair Kd.string (Kd.pair Kd.string (Kd.pair (Kd.int .i64) (Kd.pair k37 (Kd.pair Kd.string (Kd.slice 9 Kd.string)))))))) (fun p => wfStr p.1 ∧ (fun p => wfStr p.1 ∧ (fun p => wfStr p.1 ∧ (fun p => wfStr p.1 ∧ (fun p => (wfInt .i64) p.1 ∧ (fun p => wf37 p.1 ∧ (fun p => wfStr p.1 ∧ (wfSl 16 wfStr) p.2) p.2) p.2) p.2) p.2) p.2) p.2) [{ name := "Path", type := 9, offset := 0, embedded := false, tag := "", pkgPath := "", byteOffset := 0 }, { name := "Key", type := 9, offset := 1, embedded := false, tag := "", pkgPath := "", byteOffset := 16 }, { name := "Language", type := 9, offset := 2, embedded := false, tag := "", pkgPath := "", byteOffset := 32 }, { name := "Address", type := 9, offset := 3, embedded := false, tag := "", pkgPath := "", byteOffset := 48 }, { name := "Kind", type := 3, offset := 4, embedded := false, tag := "", pkgPath := "", byteOffset := 64 }, { name := "Settings", type := 37, offset := 5, embedded := false, tag := "", pkgPath := "", byteOffset := 72 }, { name := "Rest", type := 9, offset := 11, embedded := false, tag := "", pkgPath := "", byteOffset := 160 }, { name := "Files", type := 22, offset := 12, embedded := false, tag := "", pkgPath := "", byteOffset := 176 }] 0 n := (opensF_cons (off2 := 1) (opens_str Tryd.underlying9 n) (opensF_cons (off2 := 2) (opens_str Tryd.underlying9 n) (opensF_cons (off2 := 3) (opens_str Tryd.underlying9 n) (opensF_cons (off2 := 4) (opens_str Tryd.underlying9 n) (opensF_cons (off2 := 5) (opens_int Tryd.underlying3 n) (opensF_cons (off2 := 11) (opens37 n) (opensF_cons (off2 := 12) (opens_str Tryd.underlying9 n) (opensF_one ((opens_slice (b := 16) Tryd.underlying22 (by kernel_rfl) (by kernel_rfl) (opens_str Tryd.underlying9 n)).mono (Nat.le_succ _)) rfl (by kernel_rfl)) rfl (by kernel_rfl) rfl) rfl (by kernel_rfl) rfl) rfl (by kernel_rfl) rfl) rfl (by kernel_rfl) rfl) rfl (by kernel_rfl) rfl) rfl (by kernel_rfl) rfl) rfl (by kernel_rfl) rfl)
  refine opens_struct (d := (Kd.pair Kd.string (Kd.pair Kd.string (Kd.pair Kd.string (Kd.pair Kd.string (Kd.pair (Kd.int .i64) (Kd.pair k37 (Kd.pair Kd.string (Kd.slice 9 Kd.string))))))))) (wf := (fun p => wfStr p.1 ∧ (fun p => wfStr p.1 ∧ (fun p => wfStr p.1 ∧ (fun p => wfStr p.1 ∧ (fun p => (wfInt .i64) p.1 ∧ (fun p => wf37 p.1 ∧ (fun p => wfStr p.1 ∧ (wfSl 16 wfStr) p.2) p.2) p.2) p.2) p.2) p.2) p.2)) (fun x : S39 => (x.f0, x.f1, x.f2, x.f3, x.f4, x.f5, x.f6, x.f7)) (fun p => ⟨p.1, p.2.1, p.2.2.1, p.2.2.2.1, p.2.2.2.2.1, p.2.2.2.2.2.1, p.2.2.2.2.2.2.1, p.2.2.2.2.2.2.2⟩) ?_ Tryd.underlying39 ?_ h
  · exact fun _ => rfl
  · kernel_rfl
theorem opens39 (n : Nat) : Opens Tryd.prog (Kd.iso (Kd.pair Kd.string (Kd.pair Kd.string (Kd.pair Kd.string (Kd.pair Kd.string (Kd.pair (Kd.int .i64) (Kd.pair k37 (Kd.pair Kd.string (Kd.slice 9 Kd.string)))))))) (fun x : S39 => (x.f0, x.f1, x.f2, x.f3, x.f4, x.f5, x.f6, x.f7))) wf39 39 n := (opensA39 n).mono (Nat.le_succ n)
def wf25 (x : (List ByteArray × List S39)) : Prop := (wfSl 16 wfStr) x.1 ∧ (wfSl 200 wf39) x.2
theorem opensA25 (n : Nat) : Opens Tryd.prog (Kd.iso (Kd.pair (Kd.slice 9 Kd.string) (Kd.slice 39 k39)) (fun x : (List ByteArray × List S39) => x)) (fun x => (fun p => (wfSl 16 wfStr) p.1 ∧ (wfSl 200 wf39) p.2) ((fun x : (List ByteArray × List S39) => x) x)) 25 (n + 1) := by
  have h : OpensF Tryd.prog (Kd.pair (Kd.slice 9 Kd.string) (Kd.slice 39 k39)) (fun p => (wfSl 16 wfStr) p.1 ∧ (wfSl 200 wf39) p.2) [{ name := "Languages", type := 22, offset := 0, embedded := false, tag := "", pkgPath := "", byteOffset := 0 }, { name := "Pages", type := 23, offset := 1, embedded := false, tag := "", pkgPath := "", byteOffset := 24 }] 0 n := (opensF_cons (off2 := 1) ((opens_slice (b := 16) Tryd.underlying22 (by kernel_rfl) (by kernel_rfl) (opens_str Tryd.underlying9 n)).mono (Nat.le_succ _)) (opensF_one ((opens_slice (b := 200) Tryd.underlying23 (by kernel_rfl) (by kernel_rfl) (opens39 n)).mono (Nat.le_succ _)) rfl (by kernel_rfl)) rfl (by kernel_rfl) rfl)
  refine opens_struct (d := (Kd.pair (Kd.slice 9 Kd.string) (Kd.slice 39 k39))) (wf := (fun p => (wfSl 16 wfStr) p.1 ∧ (wfSl 200 wf39) p.2)) (fun x : (List ByteArray × List S39) => x) (fun p => p) ?_ Tryd.underlying25 ?_ h
  · exact fun _ => rfl
  · kernel_rfl
theorem opens25 (n : Nat) : Opens Tryd.prog (Kd.iso (Kd.pair (Kd.slice 9 Kd.string) (Kd.slice 39 k39)) (fun x : (List ByteArray × List S39) => x)) wf25 25 n := (opensA25 n).mono (Nat.le_succ n)
theorem fits_of : ∀ n x, wfN37 n x → Pure.Fits n x
  | 0, _, h => h.elim
  | n + 1, x, h => by
    obtain ⟨_, _, _, h3, ⟨h4, _, h4'⟩, ⟨h5, _, h5'⟩⟩ := h
    dsimp only at h3 h4 h4' h5 h5'
    exact ⟨h3, by omega, by omega, h5', fun a ha => fits_of n a (h4' a ha)⟩
theorem page_of {x : S39} (h : wf39 x) : Pure.Wp x := by
  obtain ⟨_, h1, h2, h3, _, ⟨n, h5⟩, _, ⟨h7, _, _⟩⟩ := h
  exact ⟨h1, h2, h3, ⟨n, fits_of n _ h5⟩, by omega⟩
theorem all_of (l0 : List ByteArray) (l1 : List S39) (h : wfSl 200 wf39 l1) : ∃ k, TTok k l0 l1 true := by
  obtain ⟨h1, _, h2⟩ := h
  obtain ⟨k, r, a, b, c⟩ := Pure.TreeTranslates l0 l1 (fun x hx => page_of (h2 x hx))
  exact ⟨k, rfl, r, by omega, a, b, c⟩
theorem own : ownKnob Tryd.prog.godebug = none := by kernel_rfl
theorem laid_met (os : Os) (args : Array Value) : laidMetH Tryd.prog Rows.treeTranslatesRow.laid ((World.laidAll Tryd.prog os Rows.treeTranslatesRow.laid).forCall (fun _ _ => 0) ⟨#[], args, []⟩).memory := by
  rw [MakeChecks.laidMetH_plain _ _ _ (by kernel_rfl)]
  exact laidMet_laidAll _ (by kernel_rfl) (by kernel_rfl)
theorem reads (os : Os) {H : Type} (enc : TypeId × Value → H) : ∃ x, DataW.whole enc Tryd.prog ((World.laidAll Tryd.prog os Rows.treeTranslatesRow.laid).forCall (fun _ _ => 0) ⟨#[], #[.agg #[.slice none 0 0, .slice none 0 0]], []⟩).memory Tryd.f3.params.toList Rows.treeTranslatesSpec.vars false (#[.agg #[.slice none 0 0, .slice none 0 0]] : Array Value).toList 8 = some ([.agg [.nil, .nil]], [], x) :=
  ⟨[], by kernel_rfl⟩
theorem contract (H : Type) (enc : TypeId × Value → H) (W : World) (base : Nat) (args : Array Value) (ds gs : List (DataW H)) (before : List MemPlace)
    (hval0 : ∀ (j : Nat) t v, Tryd.f3.params[j]? = some t → args[j]? = some v → Value.okWide Tryd.prog W .any base t v)
    (hW : DataW.Whole enc Tryd.prog Tryd.f3.params.toList Rows.treeTranslatesSpec.vars false W args.toList ds gs before)
    (hsz0 : (DataW.weightsEach Tryd.prog (Tryd.f3.params.toList ++ (OpenSpec.ofChange Rows.treeTranslatesSpec).bare.plain.varTypes Tryd.prog) (ds ++ gs)).all (· ≤ reachBytes) = true)
    (hlaid : laidMetH Tryd.prog Rows.treeTranslatesRow.laid W) (hshape : W.ShapedOpen Tryd.prog) :
    Calls Tryd.prog 3 args W fun e W' => ∃ v, e = .returned v ∧ Rows.treeTranslatesSpec.post enc Tryd.prog Tryd.f3 false true false false W args v W' := by
  have hval : ∀ (j : Nat) t v, Tryd.f3.params[j]? = some t → args[j]? = some v → Value.okWide Tryd.prog W .any base t v := hval0
  have hsz := hsz0
  have hW' := hW
  obtain ⟨p, q, hA0, hV, rfl, hfz, hnd⟩ := hW
  have hA : DataW.TrodAll enc Tryd.prog W 0 (fun _ => true) true Tryd.f3.params.toList args.toList ds p := hA0
  rw [Tryd.params3] at hA hval hsz
  obtain ⟨v0, vs0, d0, ds0, p0, q0, hargs, rfl, rfl, h0, r0⟩ := trodAll_cons hA
  obtain ⟨rfl, rfl, rfl⟩ := trodAll_nil r0
  obtain rfl : args = #[v0] := by cases args; simp_all
  obtain ⟨rfl, rfl⟩ := trodVars_none hV
  have hm0 : ∀ m ∈ d0.weights Tryd.prog 25, m ≤ reachBytes := fun m hm => by simpa using List.all_eq_true.1 hsz m (by simp [DataW.weightsEach, hm])
  have g0 := h0
  obtain ⟨cs0, rfl, hcs0⟩ := okWide_struct Tryd.underlying25 (hval 0 25 v0 rfl rfl)
  obtain ⟨y0, hk0, hw0⟩ := open_arg (P := Tryd.prog) opens25 h0 hm0
  obtain ⟨l0_0, l0_1⟩ := y0
  obtain ⟨w0_0, w0_1⟩ := hw0
  obtain ⟨_, _, he0, ⟨A0_0, c0_0, rfl, hc0_0, hr0_0⟩, ⟨A0_1, c0_1, rfl, hc0_1, hr0_1⟩⟩ := hk0
  have ev0 : (Value.agg cs0) = .agg #[.slice A0_0 l0_0.length c0_0, .slice A0_1 l0_1.length c0_1] := by
    have hx : cs0.toList = [.slice A0_0 l0_0.length c0_0, .slice A0_1 l0_1.length c0_1] := by simpa [Value.cells] using he0
    have : cs0 = #[.slice A0_0 l0_0.length c0_0, .slice A0_1 l0_1.length c0_1] := by rw [← Array.toArray_toList (xs := cs0), hx]
    rw [this]
  have hlt := hW'.lt
  have hpure := all_of l0_0 l0_1 w0_1
  obtain ⟨k, hk⟩ := hpure
  rw [ev0]
  refine (PTreeTranslates.mastkeep2_TreeTranslates.calls _ A0_0 c0_0 l0_0 A0_1 c0_1 l0_1 true W hr0_0 hc0_0 hr0_1 hc0_1 hk).mono fun e W' ⟨he, bel⟩ => ?_
  subst he
  rw [← ev0]
  have st0 : ∀ {v : Value} {d : DataW H} {ps : List MemPlace}, DataW.Trod enc Tryd.prog W 0 (fun _ => true) true 25 v d ps → (∀ x ∈ ps, x.block < W.heap.size) → DataW.Trod enc Tryd.prog W' 0 (fun b => decide (b < W.heap.size)) true 25 v d ps :=
    fun T hp => WideElems.Trod_stays (P := Tryd.prog) (by kernel_rfl) (by kernel_rfl) (of_decide_eq_true (by kernel_rfl)) T (fun x hx => bel.same (hp x hx)) (fun x hx => by simpa using hp x hx)
  exact ⟨_, rfl, _, _, _, [], _, [], hW', trodAll_mk1 (shut_bool Tryd.underlying4 _), (trodAll_cons_mk (st0 g0 (fun x hx => hlt x (by simp [hx]))) trodAll_mk0), rfl, bel.frame _, fun h => by cases h⟩
theorem lifted (os : Os) (started : os.Started) (H : Type) (enc : TypeId × Value → H) (F : Stop.Interp) :
    ReturnsInHanded {} Tryd.checked os 3 .any ((OpenSpec.ofChange Rows.treeTranslatesSpec).preRow enc Tryd.prog Tryd.f3 Rows.treeTranslatesRow.domain false Rows.treeTranslatesRow.laid) (((OpenSpec.ofChange Rows.treeTranslatesSpec).at F).post enc Tryd.prog Tryd.f3 false true false false) := by
  obtain ⟨places, hx⟩ := reads os enc
  refine returnsInHanded_of_row (C := Tryd.checked) (s := OpenSpec.ofChange Rows.treeTranslatesSpec) own started (by kernel_rfl) Tryd.func3
    (witness_row_at (enc := enc) (C := Tryd.checked) false (World.laidAll Tryd.prog os Rows.treeTranslatesRow.laid) #[.agg #[.slice none 0 0, .slice none 0 0]] (World.laidAll_os _ _ _) (by kernel_rfl) (by kernel_rfl) (by kernel_rfl)
      (OpenSpec.preRow_of_cond 8 hx (by kernel_rfl) (fun k hk => by cases hk) (by kernel_rfl) (laid_met os _))) ?_
  intro W base args ds gs before hval hW _ _ hsz hlaid hshape _
  exact contract H enc W base args ds gs before hval hW hsz hlaid hshape
theorem said : Rows.TreeTranslatesSaid :=
  OpenClaim.holds_of_cond 3 Tryd.f3 rfl rfl rfl rfl rfl rfl rfl ⟨rfl, rfl, rfl, rfl, rfl⟩ rfl rfl rfl rfl rfl (by kernel_rfl) Tryd.func3 (by kernel_rfl)
    (of_decide_eq_true (by kernel_rfl)) (by unfold Func.isWrapper; first | (rw [if_pos (by decide +kernel)]; kernel_rfl) | (rw [if_neg (by decide +kernel)]; exact ⟨rfl, rfl⟩))
    (fun os started H enc _ F => by rw [OpenClaim.pre_eq_preRow]; exact lifted os started H enc F)
theorem plain_at : ∀ t ∈ [25], Tryd.prog.wantsStandIn t = false := by
  intro t ht
  simp only [List.mem_cons, List.not_mem_nil, or_false] at ht
  rcases ht with rfl <;> kernel_rfl
theorem plain (f : FuncId) (fn : Func) (hf : Tryd.pinned.checked.prog.funcNamed "masthead/mastkeep2.TreeTranslates" = some f) (hfn : Tryd.pinned.checked.prog.funcs[f]? = some fn) :
    false = Tryd.pinned.checked.prog.looks [] ∧ ∀ (j : Nat) t, fn.params[j]? = some t → Tryd.pinned.checked.prog.wantsStandIn t = false := by
  obtain rfl : f = 3 := Option.some.inj ((show Tryd.prog.funcNamed "masthead/mastkeep2.TreeTranslates" = some 3 by kernel_rfl).symm.trans hf) |>.symm
  obtain rfl : fn = Tryd.f3 := (Option.some.inj (Tryd.func3.symm.trans hfn)).symm
  refine ⟨by kernel_rfl, fun j t ht => ?_⟩
  rw [Tryd.params3] at ht
  exact plain_at t (by simpa using Array.mem_of_getElem? ht)
theorem card : Rows.TreeTranslatesCardSaid :=
  Claim7.holds_tied_plain_at .later [] _ _ _ _ said (fun _ h => by cases h) (by kernel_rfl) (fun _ h => by cases h) treeTranslates_row_tie rfl ⟨rfl, rfl⟩ (by kernel_rfl) rfl plain (by kernel_rfl)
#print axioms card
end Go.Proofs.YtcgmieeojngceaaDoor.treeTranslates
namespace Go.Proofs.YtcgmieeojngceaaDoor
/-- The card, under a short name, for the claim. -/
theorem treeTranslates_holds : Rows.TreeTranslatesCardSaid := treeTranslates.card
end Go.Proofs.YtcgmieeojngceaaDoor
