/- ConfMends' row, where what it reads is of bulk at most 1048576, and its tied card: two values are read as trees that are not deep, the walk and the law of Diff and Apply are joined. -/
import Derived.Test.YtlofkjdcapbohaaGreatDoorCards
import Derived.Test.YtlofkjdcapbohaaGreatDoorTie
import Derived.Test.YtlofkjdcapbohaaGreatDoorOpens
import Derived.Test.YtlofkjdcapbohaaGreatDoorBulk
import Derived.Test.YtlofkjdcapbohaaGreatDoorCfZB
import Derived.Test.YtlofkjdcapbohaaGreatDoorPureConfMends
import Derived.WalkKit
import Derived.ProofKit
import Derived.OpenShut
import Derived.ShutString
import Derived.Below
import Derived.LaidMore
import Derived.Lay
import Derived.SevenTiedAt
import Derived.Stop.Joined
import Derived.Deep.DeepHandedRow
namespace Go.Proofs.YtlofkjdcapbohaaGreatDoor.confMends
open Go.ChangeShapes Go.WideShapes Go.ChangeAt Go.RowKit Go.Proofs.YtlofkjdcapbohaaGreatDoor.PConfKeeps Go.Proofs.YtlofkjdcapbohaaGreatDoorW.PrintWords Go.Proofs.YtlofkjdcapbohaaGreatDoorO
open Go.ChangeMaps (open_string shut_string)
set_option linter.unusedVariables false
set_option maxRecDepth 100000

/-! ### An argument's reading is a tree -/
def wfP (wf : S25 → Prop) (p : Int × Bool × Int × ByteArray × List S25 × List ByteArray) : Prop :=
 wfInt .i64 p.1 ∧ wfBool p.2.1 ∧ wfInt .i64 p.2.2.1 ∧ wfStr p.2.2.2.1 ∧ wfSl 88 wf p.2.2.2.2.1 ∧ wfSl 16 wfStr p.2.2.2.2.2
def wfN : Nat → S25 → Prop
 | 0, _ => False
 | n + 1, x => wfP (wfN n) (x.f0, x.f1, x.f2, x.f3, x.f4, x.f5)
/-- The struct's fields, as the program has them. -/
def flds : List Field := [{ name := "Kind", type := 3, offset := 0, embedded := false, tag := "", pkgPath := "", byteOffset := 0 }, { name := "Bool", type := 4, offset := 1, embedded := false, tag := "", pkgPath := "", byteOffset := 8 }, { name := "Int", type := 3, offset := 2, embedded := false, tag := "", pkgPath := "", byteOffset := 16 }, { name := "Text", type := 9, offset := 3, embedded := false, tag := "", pkgPath := "", byteOffset := 24 }, { name := "Items", type := 22, offset := 4, embedded := false, tag := "", pkgPath := "", byteOffset := 40 }, { name := "Keys", type := 23, offset := 5, embedded := false, tag := "", pkgPath := "", byteOffset := 64 }]
theorem opens25 : ∀ n, Opens Tryz.prog (Kd.upto F25 6 [9, 25] n) (wfN n) 25 n
 | 0 => opens_zero _ _ _
 | n + 1 => by
  have ih := opens25 n
  have hsz : Tryz.prog.cellsOf 25 = (Kd.upto F25 6 [9, 25] n).sz := by rw [sz25 n]; kernel_rfl
  have hF : OpensF Tryz.prog (Kd.pair (Kd.int .i64) (Kd.pair Kd.bool (Kd.pair (Kd.int .i64) (Kd.pair Kd.string (Kd.pair (Kd.slice 25 (Kd.upto F25 6 [9, 25] n)) (Kd.slice 9 Kd.string)))))) (wfP (wfN n)) flds 0 n :=
   opensF_cons (off2 := 1) (opens_int Tryz.underlying3 n) (opensF_cons (off2 := 2) (opens_bool Tryz.underlying4 n) (opensF_cons (off2 := 3) (opens_int Tryz.underlying3 n) (opensF_cons (off2 := 4) (opens_str Tryz.underlying9 n)
    (opensF_cons (off2 := 5) ((opens_slice (b := 88) Tryz.underlying22 hsz (by kernel_rfl) ih).mono (Nat.le_succ n)) (opensF_one ((opens_slice (b := 16) Tryz.underlying23 (by kernel_rfl) (by kernel_rfl) (opens_str Tryz.underlying9 n)).mono (Nat.le_succ n)) rfl (by kernel_rfl)) rfl (by kernel_rfl) rfl) rfl (by kernel_rfl) rfl) rfl (by kernel_rfl) rfl) rfl (by kernel_rfl) rfl) rfl (by kernel_rfl) rfl
  exact opens_struct (wf := wfP (wfN n)) (fun x : S25 => (x.f0, x.f1, x.f2, x.f3, x.f4, x.f5)) (fun p => ⟨p.1, p.2.1, p.2.2.1, p.2.2.2.1, p.2.2.2.2.1, p.2.2.2.2.2⟩) (fun _ => rfl) Tryz.underlying25 (by kernel_rfl) hF
theorem fits_of : ∀ n x, wfN n x → Pure.Fits n x
 | 0, _, h => h.elim
 | n + 1, x, h => by
  obtain ⟨_, _, _, h3, ⟨h4, _, h4'⟩, ⟨h5, _, h5'⟩⟩ := h
  dsimp only at h3 h4 h4' h5 h5'
  exact ⟨by unfold wfStr at h3; omega, by omega, by omega, fun a ha => by have := h5' a ha; unfold wfStr at this; omega, fun a ha => fits_of n a (h4' a ha)⟩
/-- the types of a value -/
def okT (t : TypeId) : Prop := t = 3 ∨ t = 4 ∨ t = 9 ∨ t = 22 ∨ t = 23 ∨ t = 25
theorem okT_flat : Bulk.Flat Tryz.prog okT := by
 rintro t (rfl | rfl | rfl | rfl | rfl | rfl)
 ·rw [Tryz.underlying3]; trivial
 ·rw [Tryz.underlying4]; trivial
 ·rw [Tryz.underlying9]; trivial
 ·rw [Tryz.underlying22]; show okT 25; unfold okT; simp
 ·rw [Tryz.underlying23]; show okT 9; unfold okT; simp
 ·rw [Tryz.underlying25]
  intro f hf
  unfold okT
  simp at hf
  rcases hf with rfl | rfl | rfl | rfl | rfl | rfl <;> simp
theorem open_tree {H : Type} {enc : TypeId × Value → H} {w : World} {base : Nat} {spare : Nat → Bool} {held : Bool} {v : Value} {x : DataW H} {ps : List MemPlace}
  (hv : DataW.Trod enc Tryz.prog w base spare held 25 v x ps) (hw : ∀ m ∈ x.weights Tryz.prog 25, m ≤ reachBytes) : ∃ y : S25, k25.K w y v.cells.toList ∧ Pure.Fits (Rows.uptoBulk x) y := by
 obtain ⟨fuel, hf⟩ := hv
 have hf' := Bulk.trod_cut enc Tryz.prog w base spare held okT okT_flat fuel 25 v.cells.toList (x, ps) (by unfold okT; simp) hf (Rows.uptoBulk x) (Nat.le_refl _)
 obtain ⟨y, hy, hwf⟩ := opens25 _ H enc w base spare held _ _ _ (Nat.le_refl _) hf' hw
 exact ⟨y, ⟨_, hy⟩, fits_of _ _ hwf⟩
theorem agg_of {w : World} {y : S25} {v : Value} (h : k25.K w y v.cells.toList) : v = .agg v.cells.toList.toArray := by
 have hl := k25.K_len h
 cases v <;> first | rfl | (simp [Value.cells] at hl; exact absurd hl (by decide))
/-- The walk at two trees. -/
theorem walk_trees (a b : S25) (n : Nat) (hn : n ≤ 4194304) (ha : Pure.Fits n a) (hb : Pure.Fits n b) (w : World) (ca cb : List Value) (ka : k25.K w a ca) (kb : k25.K w b cb) :
  Calls Tryz.prog 4 #[.agg ca.toArray, .agg cb.toArray] w fun e w' => e = .returned (.bool true) ∧ Below w.heap.size w w' := by
 obtain ⟨A4, c4, A5, c5, rfl, la4, qa4, la5, qa5⟩ := k25_open ka
 obtain ⟨B4, d4, B5, d5, rfl, lb4, qb4, lb5, qb5⟩ := k25_open kb
 rcases Pure.ConfMends hn a b ha hb with ⟨k, l, er, h1, h2, h3⟩ | ⟨k, l, x, r, bs, h1, h2, h3, h4, h5⟩
 ·exact mends_bad k 8 a A4 c4 A5 c5 b B4 d4 B5 d5 l w ⟨qa4, la4, qa5, la5⟩ ⟨qb4, lb4, qb5, lb5⟩ er h1 h2 h3
 ·exact mends_good k 8 a A4 c4 A5 c5 b B4 d4 B5 d5 l w ⟨qa4, la4, qa5, la5⟩ ⟨qb4, lb4, qb5, lb5⟩ x r bs h1 h2 h3 h4 h5

/-! ### The row -/
theorem own : ownKnob Tryz.prog.godebug = none := by kernel_rfl
theorem plainH (W : World) : laidMetH Tryz.prog Rows.confMendsUptoRow.laid W = laidMet Tryz.prog Rows.confMendsUptoRow.laid W := MakeChecks.laidMetH_plain _ _ _ (by kernel_rfl)
theorem laid_met (os : Os) (args : Array Value) : laidMetH Tryz.prog Rows.confMendsUptoRow.laid ((World.laidAll Tryz.prog os Rows.confMendsUptoRow.laid).forCall (fun _ _ => 0) ⟨#[], args, []⟩).memory := by
 rw [plainH]
 exact laidMet_laidAll _ (by kernel_rfl) (by kernel_rfl)
def nothing : Value := .agg #[.int .i64 0, .bool false, .int .i64 0, .string ⟨#[]⟩, .slice none 0 0, .slice none 0 0]
def nothingD {H : Type} : DataW H := .agg [.lit (.int .i64 0), .lit (.bool false), .lit (.int .i64 0), .lit (.string []), .nil, .nil]
theorem reads (os : Os) {H : Type} (enc : TypeId × Value → H) : ∃ x, DataW.whole enc Tryz.prog ((World.laidAll Tryz.prog os Rows.confMendsUptoRow.laid).forCall (fun _ _ => 0) ⟨#[], #[nothing, nothing], []⟩).memory Tryz.f4.params.toList Rows.confMendsSpec.vars false #[nothing, nothing].toList 8 = some ([nothingD, nothingD], [], x) :=
 ⟨[], by kernel_rfl⟩
theorem contract (H : Type) (enc : TypeId × Value → H) (W : World) (base : Nat) (args : Array Value) (ds gs : List (DataW H)) (before : List MemPlace)
  (hval0 : ∀ (j : Nat) t v, Tryz.f4.params[j]? = some t → args[j]? = some v → Value.okWide Tryz.prog W .any base t v)
  (hW : DataW.Whole enc Tryz.prog Tryz.f4.params.toList Rows.confMendsSpec.vars false W args.toList ds gs before)
  (hcond : Rows.uptoSmall H (ds ++ gs) = true)
  (hsz0 : (DataW.weightsEach Tryz.prog (Tryz.f4.params.toList ++ (OpenSpec.ofChange Rows.confMendsSpec).bare.plain.varTypes Tryz.prog) (ds ++ gs)).all (· ≤ reachBytes) = true):
  Calls Tryz.prog 4 args W fun e W' => ∃ v, e = .returned v ∧ Rows.confMendsSpec.post enc Tryz.prog Tryz.f4 false true false false W args v W' := by
 have hval : ∀ (j : Nat) t v, Tryz.f4.params[j]? = some t → args[j]? = some v → Value.okWide Tryz.prog W .any base t v := hval0
 have hsz := hsz0
 have hW' := hW
 obtain ⟨p, q, hA0, hV, rfl, hfz, hnd⟩ := hW
 have hA : DataW.TrodAll enc Tryz.prog W 0 (fun _ => true) true Tryz.f4.params.toList args.toList ds p := hA0
 rw [Tryz.params4] at hA hval hsz
 obtain ⟨v0, vs0, d0, ds0, p0, q0, hargs, rfl, rfl, h0, r0⟩ := trodAll_cons hA
 obtain ⟨v1, vs1, d1, ds1, p1, q1, rfl, rfl, rfl, h1, r1⟩ := trodAll_cons r0
 obtain ⟨rfl, rfl, rfl⟩ := trodAll_nil r1
 obtain rfl : args = #[v0, v1] := by cases args; simp_all
 obtain ⟨rfl, rfl⟩ := trodVars_none hV
 have hm0 : ∀ m ∈ d0.weights Tryz.prog 25, m ≤ reachBytes := fun m hm => by simpa using List.all_eq_true.1 hsz m (by simp [DataW.weightsEach, hm])
 have hm1 : ∀ m ∈ d1.weights Tryz.prog 25, m ≤ reachBytes := fun m hm => by simpa using List.all_eq_true.1 hsz m (by simp [DataW.weightsEach, hm])
 have hbulk : Rows.uptoBulk d0 ≤ 1048576 ∧ Rows.uptoBulk d1 ≤ 1048576 := by
  have h_ : Rows.uptoBulkAll ([d0, d1] ++ []) ≤ 1048576 := of_decide_eq_true hcond
  rw [List.append_nil, Rows.uptoBulkAll, Rows.uptoBulkAll, Rows.uptoBulkAll] at h_
  omega
 obtain ⟨a, ka, fa⟩ := open_tree h0 hm0
 obtain ⟨c, kc, fc⟩ := open_tree h1 hm1
 have e0 := agg_of ka
 have e1 := agg_of kc
 have g0 := h0
 have g1 := h1
 have hlt := hW'.lt
 rw [e0, e1]
 have fl := Pure.fits_mono
 refine (walk_trees a c 1048576 (by omega) (fl _ _ _ hbulk.1 fa) (fl _ _ _ hbulk.2 fc) W _ _ ka kc).mono fun e W' ⟨he, bel⟩ => ?_
 subst he
 rw [← e0, ← e1]
 have st : ∀ {v : Value} {d : DataW H} {ps : List MemPlace}, DataW.Trod enc Tryz.prog W 0 (fun _ => true) true 25 v d ps → (∀ x ∈ ps, x.block < W.heap.size) → DataW.Trod enc Tryz.prog W' 0 (fun b => decide (b < W.heap.size)) true 25 v d ps := by
  intro v d ps T hp
  exact WideElems.Trod_stays (P := Tryz.prog) (by kernel_rfl) (by kernel_rfl) (of_decide_eq_true (by kernel_rfl)) T (fun x hx => bel.same (hp x hx)) (fun x hx => by simpa using hp x hx)
 exact ⟨_, rfl, _, _, _, [], _, [], hW', trodAll_mk1 (shut_bool Tryz.underlying4 _), trodAll_cons_mk (st g0 (fun x hx => hlt x (by simp [hx]))) (trodAll_cons_mk (st g1 (fun x hx => hlt x (by simp [hx]))) trodAll_mk0), rfl, bel.frame _, fun h => by cases h⟩
set_option maxRecDepth 100000 in
theorem lifted (os : Os) (started : os.Started) (H : Type) (enc : TypeId × Value → H) (F : Stop.Interp) :
  ReturnsInHanded {} Tryz.checked os 4 .any ((Rows.OpenSpec.upto Rows.confMendsSpec).preRow enc Tryz.prog Tryz.f4 Rows.confMendsUptoRow.domain false Rows.confMendsUptoRow.laid) (((Rows.OpenSpec.upto Rows.confMendsSpec).at F).post enc Tryz.prog Tryz.f4 false true false false) := by
 obtain ⟨places, hx⟩ := reads os enc
 refine returnsInHanded_of_row (C := Tryz.checked) (s := Rows.OpenSpec.upto Rows.confMendsSpec) own started (by kernel_rfl) Tryz.func4
  (witness_row_at (enc := enc) (C := Tryz.checked) false (World.laidAll Tryz.prog os Rows.confMendsUptoRow.laid) #[nothing, nothing] (World.laidAll_os _ _ _) (by kernel_rfl) (by kernel_rfl) (by kernel_rfl)
   (OpenSpec.preRow_of_cond 8 hx (by kernel_rfl) (fun k hk => by cases hk; rfl) (by kernel_rfl) (laid_met os _))) ?_
 intro W base args ds gs before hval hW _ hcond hsz hlaid _ _
 exact contract H enc W base args ds gs before hval hW (hcond _ rfl) hsz
theorem said : Rows.ConfMendsUptoSaid :=
 OpenClaim.holds_of_cond 4 Tryz.f4 rfl rfl rfl rfl rfl rfl rfl ⟨rfl, rfl, rfl, rfl, rfl⟩ rfl rfl rfl rfl rfl (by kernel_rfl) Tryz.func4 (by kernel_rfl)
  (of_decide_eq_true (by kernel_rfl)) (by unfold Func.isWrapper; first | (rw [if_pos (by decide +kernel)]; kernel_rfl) | (rw [if_neg (by decide +kernel)]; exact ⟨rfl, rfl⟩))
  (fun os started H enc _ F => by rw [OpenClaim.pre_eq_preRow]; exact lifted os started H enc F)
theorem plain (f : FuncId) (fn : Func) (hf : Tryz.pinned.checked.prog.funcNamed "masthead/mastkeep2.ConfMends" = some f) (hfn : Tryz.pinned.checked.prog.funcs[f]? = some fn) :
  true = Tryz.pinned.checked.prog.looks [] ∧ ∀ (j : Nat) t, fn.params[j]? = some t → Tryz.pinned.checked.prog.wantsStandIn t = false := by
 obtain rfl : f = 4 := Option.some.inj ((show Tryz.prog.funcNamed "masthead/mastkeep2.ConfMends" = some 4 by kernel_rfl).symm.trans hf) |>.symm
 obtain rfl : fn = Tryz.f4 := (Option.some.inj (Tryz.func4.symm.trans hfn)).symm
 refine ⟨by kernel_rfl, fun j t ht => ?_⟩
 rw [Tryz.params4] at ht
 have hm : t ∈ [25, 25] := by simpa using Array.mem_of_getElem? ht
 simp at hm
 subst hm
 exact (show Tryz.prog.wantsStandIn 25 = false by kernel_rfl)
theorem card : Rows.ConfMendsUptoCardSaid :=
 Claim7.holds_tied_plain_at .later [] _ _ _ _ said (fun _ h => by cases h) (by kernel_rfl) (fun _ h => by cases h) confMendsUpto_row_tie rfl ⟨rfl, rfl⟩ (by kernel_rfl) rfl plain (by kernel_rfl)
#print axioms card
end Go.Proofs.YtlofkjdcapbohaaGreatDoor.confMends
namespace Go.Proofs.YtlofkjdcapbohaaGreatDoor
/-- The card, under a short name, for the claim. -/
theorem confMends_holds : Rows.ConfMendsUptoCardSaid := confMends.card
end Go.Proofs.YtlofkjdcapbohaaGreatDoor
