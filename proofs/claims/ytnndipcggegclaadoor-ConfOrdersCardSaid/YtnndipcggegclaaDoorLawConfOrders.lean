/- ConfOrders' row and its tied card: three values that were read as data are trees; the walk and the order's law joined. The listed variables are laid in the witness; the walk does not read them. -/
import Derived.Test.YtnndipcggegclaaDoorCards
import Derived.Test.YtnndipcggegclaaDoorTie
import Derived.Test.YtnndipcggegclaaDoorOpens
import Derived.Test.YtnndipcggegclaaDoorPConfOrdersWalk
import Derived.Test.YtnndipcggegclaaDoorPureConfOrders
import Derived.WalkKit
import Derived.ProofKit
import Derived.OpenShut
import Derived.Below
import Derived.LaidMore
import Derived.Lay
import Derived.SevenTiedAt
import Derived.Stop.Joined
import Derived.Deep.DeepHandedRow
namespace Go.Proofs.YtnndipcggegclaaDoor.confOrders
open Go.ChangeShapes Go.WideShapes Go.ChangeAt Go.RowKit Go.Proofs.YtnndipcggegclaaDoor.PConfOrders Go.Proofs.YtnndipcggegclaaDoorW.PrintWords Go.Proofs.YtnndipcggegclaaDoorO
set_option linter.unusedVariables false
set_option maxRecDepth 100000

/-! ### An argument's reading is a tree -/
def wfP (wf : S37 → Prop) (p : Int × Bool × Int × ByteArray × List S37 × List ByteArray) : Prop :=
  wfInt .i64 p.1 ∧ wfBool p.2.1 ∧ wfInt .i64 p.2.2.1 ∧ wfStr p.2.2.2.1 ∧ wfSl 88 wf p.2.2.2.2.1 ∧ wfSl 16 wfStr p.2.2.2.2.2
def wfN : Nat → S37 → Prop
  | 0, _ => False
  | n + 1, x => wfP (wfN n) (x.f0, x.f1, x.f2, x.f3, x.f4, x.f5)
/-- The struct's fields, as the program has them. -/
def flds : List Field := [{ name := "Kind", type := 3, offset := 0, embedded := false, tag := "", pkgPath := "", byteOffset := 0 }, { name := "Bool", type := 4, offset := 1, embedded := false, tag := "", pkgPath := "", byteOffset := 8 }, { name := "Int", type := 3, offset := 2, embedded := false, tag := "", pkgPath := "", byteOffset := 16 }, { name := "Text", type := 9, offset := 3, embedded := false, tag := "", pkgPath := "", byteOffset := 24 }, { name := "Items", type := 35, offset := 4, embedded := false, tag := "", pkgPath := "", byteOffset := 40 }, { name := "Keys", type := 22, offset := 5, embedded := false, tag := "", pkgPath := "", byteOffset := 64 }]
theorem opens37 : ∀ n, Opens Tryd.prog (Kd.upto F37 6 [9, 37] n) (wfN n) 37 n
  | 0 => opens_zero _ _ _
  | n + 1 => by
    have ih := opens37 n
    have hsz : Tryd.prog.cellsOf 37 = (Kd.upto F37 6 [9, 37] n).sz := by rw [sz37 n]; kernel_rfl
    have hF : OpensF Tryd.prog (Kd.pair (Kd.int .i64) (Kd.pair Kd.bool (Kd.pair (Kd.int .i64) (Kd.pair Kd.string (Kd.pair (Kd.slice 37 (Kd.upto F37 6 [9, 37] n)) (Kd.slice 9 Kd.string)))))) (wfP (wfN n)) flds 0 n :=
      opensF_cons (off2 := 1) (opens_int Tryd.underlying3 n) (opensF_cons (off2 := 2) (opens_bool Tryd.underlying4 n) (opensF_cons (off2 := 3) (opens_int Tryd.underlying3 n) (opensF_cons (off2 := 4) (opens_str Tryd.underlying9 n)
        (opensF_cons (off2 := 5) ((opens_slice (b := 88) Tryd.underlying35 hsz (by kernel_rfl) ih).mono (Nat.le_succ n)) (opensF_one ((opens_slice (b := 16) Tryd.underlying22 (by kernel_rfl) (by kernel_rfl) (opens_str Tryd.underlying9 n)).mono (Nat.le_succ n)) rfl (by kernel_rfl)) rfl (by kernel_rfl) rfl) rfl (by kernel_rfl) rfl) rfl (by kernel_rfl) rfl) rfl (by kernel_rfl) rfl) rfl (by kernel_rfl) rfl
    exact opens_struct (wf := wfP (wfN n)) (fun x : S37 => (x.f0, x.f1, x.f2, x.f3, x.f4, x.f5)) (fun p => ⟨p.1, p.2.1, p.2.2.1, p.2.2.2.1, p.2.2.2.2.1, p.2.2.2.2.2⟩) (fun _ => rfl) Tryd.underlying37 (by kernel_rfl) hF
theorem fits_of : ∀ n x, wfN n x → Pure.Fits n x
  | 0, _, h => h.elim
  | n + 1, x, h => by
    obtain ⟨_, _, _, _, ⟨h4, _, h4'⟩, ⟨h5, _, _⟩⟩ := h
    dsimp only at h4 h4' h5
    exact ⟨by omega, by omega, fun a ha => fits_of n a (h4' a ha)⟩
theorem open_tree {H : Type} {enc : TypeId × Value → H} {w : World} {base : Nat} {spare : Nat → Bool} {held : Bool} {v : Value} {x : DataW H} {ps : List MemPlace}
    (hv : DataW.Trod enc Tryd.prog w base spare held 37 v x ps) (hw : ∀ m ∈ x.weights Tryd.prog 37, m ≤ reachBytes) : ∃ (y : S37) (n : Nat), k37.K w y v.cells.toList ∧ Pure.Fits n y := by
  obtain ⟨fuel, hf⟩ := hv
  obtain ⟨y, hy, hwf⟩ := opens37 fuel H enc w base spare held fuel _ _ (Nat.le_refl _) hf hw
  exact ⟨y, fuel, ⟨fuel, hy⟩, fits_of _ _ hwf⟩

theorem agg_of {w : World} {y : S37} {v : Value} (h : k37.K w y v.cells.toList) : v = .agg v.cells.toList.toArray := by
  have hl := k37.K_len h
  cases v <;> first | rfl | (simp [Value.cells] at hl; exact absurd hl (by decide))
theorem sc {a : Int} (h : Pure.Sgn a) : a = -1 ∨ a = 0 ∨ a = 1 := h
/-- The walk at three trees. -/
theorem walk_trees (a b c : S37) (n : Nat) (ha : Pure.Fits n a) (hb : Pure.Fits n b) (hc : Pure.Fits n c) (w : World) (ca cb cc : List Value) (ka : k37.K w a ca) (kb : k37.K w b cb) (kc : k37.K w c cc) :
    Calls Tryd.prog 4 #[.agg ca.toArray, .agg cb.toArray, .agg cc.toArray] w fun e w' => e = .returned (.bool true) ∧ Below w.heap.size w w' := by
  obtain ⟨k1, h1⟩ := Pure.f_at n a b ha
  obtain ⟨k2, h2⟩ := Pure.f_at n b c hb
  obtain ⟨k3, h3⟩ := Pure.f_at n a c ha
  obtain ⟨k4, h4⟩ := Pure.f_at n b a hb
  obtain ⟨k5, h5⟩ := Pure.f_at n a a ha
  have t := Pure.cv_tri n a b c
  have e9 : Pure.cv n b a = wrap64 (-Pure.cv n a b) := by
    rw [Pure.cv_neg n a b]
    obtain ⟨⟨hs, _, _⟩, _⟩ := t
    rcases hs with hs | hs | hs <;> rw [hs] <;> unfold wrap64 <;> omega
  have e11 := Pure.cv_self n a
  have up := fun {x y : S37} {k : Nat} {r : Int} (hk : k ≤ k1 + k2 + k3 + k4 + k5) (h : Pure.F k x y = some r) => at_rounds (conf_Compare.mono x.f0 x.f1 x.f2 x.f3 x.f4 x.f5 y.f0 y.f1 y.f2 y.f3 y.f4 y.f5) hk h
  have g1 := up (by omega) h1
  have g2 := up (by omega) h2
  have g3 := up (by omega) h3
  have g4 := up (by omega) h4
  have g5 := up (by omega) h5
  obtain ⟨A4, c4, A5, c5, rfl, la4, qa4, la5, qa5⟩ := k37_open ka
  obtain ⟨B4, d4, B5, d5, rfl, lb4, qb4, lb5, qb5⟩ := k37_open kb
  obtain ⟨C4, f4, C5, f5, rfl, lc4, qc4, lc5, qc5⟩ := k37_open kc
  refine co_true _ _ _ _ _ _ _ _ _ _ _ _ _ _ _ _ _ _ _ _ _ _ _ _ _ _ _ _ _ _ _ _ _ _ _ _ w qa4 la4 qa5 la5 qb4 lb4 qb5 lb5 qc4 lc4 qc5 lc5 g1 g2 g3 g4 g5 e9 e11 ?_
  obtain ⟨⟨s1, s2, s3⟩, t1, t2⟩ := t
  generalize Pure.cv n a b = x at *
  generalize Pure.cv n b c = y at *
  generalize Pure.cv n a c = z at *
  clear g1 g2 g3 g4 g5 h1 h2 h3 h4 h5 up e9 e11
  rcases sc s1 with rfl | rfl | rfl <;> rcases sc s2 with rfl | rfl | rfl <;> rcases sc s3 with rfl | rfl | rfl <;> first | decide | (exfalso; simp at t1 t2)

/-! ### The row -/
theorem own : ownKnob Tryd.prog.godebug = none := by kernel_rfl
theorem laid_met (os : Os) (args : Array Value) : laidMetH Tryd.prog Rows.confOrdersRow.laid ((World.laidAll Tryd.prog os Rows.confOrdersRow.laid).forCall (fun _ _ => 0) ⟨#[], args, []⟩).memory := by
  rw [MakeChecks.laidMetH_plain _ _ _ (by kernel_rfl)]
  exact laidMet_laidAll _ (by kernel_rfl) (by kernel_rfl)
def nothing : Value := .agg #[.int .i64 0, .bool false, .int .i64 0, .string ⟨#[]⟩, .slice none 0 0, .slice none 0 0]
def nothingD {H : Type} : DataW H := .agg [.lit (.int .i64 0), .lit (.bool false), .lit (.int .i64 0), .lit (.string []), .nil, .nil]
theorem reads (os : Os) {H : Type} (enc : TypeId × Value → H) : ∃ x, DataW.whole enc Tryd.prog ((World.laidAll Tryd.prog os Rows.confOrdersRow.laid).forCall (fun _ _ => 0) ⟨#[], #[nothing, nothing, nothing], []⟩).memory Tryd.f4.params.toList Rows.confOrdersSpec.vars false #[nothing, nothing, nothing].toList 8 = some ([nothingD, nothingD, nothingD], [], x) :=
  ⟨[], by kernel_rfl⟩
theorem contract (H : Type) (enc : TypeId × Value → H) (W : World) (base : Nat) (args : Array Value) (ds gs : List (DataW H)) (before : List MemPlace)
    (hval0 : ∀ (j : Nat) t v, Tryd.f4.params[j]? = some t → args[j]? = some v → Value.okWide Tryd.prog W .any base t v)
    (hW : DataW.Whole enc Tryd.prog Tryd.f4.params.toList Rows.confOrdersSpec.vars false W args.toList ds gs before)
    (hsz0 : (DataW.weightsEach Tryd.prog (Tryd.f4.params.toList ++ (OpenSpec.ofChange Rows.confOrdersSpec).bare.plain.varTypes Tryd.prog) (ds ++ gs)).all (· ≤ reachBytes) = true) :
    Calls Tryd.prog 4 args W fun e W' => ∃ v, e = .returned v ∧ Rows.confOrdersSpec.post enc Tryd.prog Tryd.f4 false true false false W args v W' := by
  have hval : ∀ (j : Nat) t v, Tryd.f4.params[j]? = some t → args[j]? = some v → Value.okWide Tryd.prog W .any base t v := hval0
  have hsz := hsz0
  have hW' := hW
  obtain ⟨p, q, hA0, hV, rfl, hfz, hnd⟩ := hW
  have hA : DataW.TrodAll enc Tryd.prog W 0 (fun _ => true) true Tryd.f4.params.toList args.toList ds p := hA0
  rw [Tryd.params4] at hA hval hsz
  obtain ⟨v0, vs0, d0, ds0, p0, q0, hargs, rfl, rfl, h0, r0⟩ := trodAll_cons hA
  obtain ⟨v1, vs1, d1, ds1, p1, q1, rfl, rfl, rfl, h1, r1⟩ := trodAll_cons r0
  obtain ⟨v2, vs2, d2, ds2, p2, q2, rfl, rfl, rfl, h2, r2⟩ := trodAll_cons r1
  obtain ⟨rfl, rfl, rfl⟩ := trodAll_nil r2
  obtain rfl : args = #[v0, v1, v2] := by cases args; simp_all
  obtain ⟨rfl, rfl⟩ := trodVars_none hV
  have hm0 : ∀ m ∈ d0.weights Tryd.prog 37, m ≤ reachBytes := fun m hm => by simpa using List.all_eq_true.1 hsz m (by simp [DataW.weightsEach, hm])
  have hm1 : ∀ m ∈ d1.weights Tryd.prog 37, m ≤ reachBytes := fun m hm => by simpa using List.all_eq_true.1 hsz m (by simp [DataW.weightsEach, hm])
  have hm2 : ∀ m ∈ d2.weights Tryd.prog 37, m ≤ reachBytes := fun m hm => by simpa using List.all_eq_true.1 hsz m (by simp [DataW.weightsEach, hm])
  obtain ⟨a, na, ka, fa⟩ := open_tree h0 hm0
  obtain ⟨b, nb, kb, fb⟩ := open_tree h1 hm1
  obtain ⟨c, nc, kc, fc⟩ := open_tree h2 hm2
  have e0 := agg_of ka
  have e1 := agg_of kb
  have e2 := agg_of kc
  have g0 := h0
  have g1 := h1
  have g2 := h2
  have hlt := hW'.lt
  rw [e0, e1, e2]
  have fl := Pure.fits_mono
  refine (walk_trees a b c (na + nb + nc) (fl _ _ _ (by omega) fa) (fl _ _ _ (by omega) fb) (fl _ _ _ (by omega) fc) W _ _ _ ka kb kc).mono fun e W' ⟨he, bel⟩ => ?_
  subst he
  rw [← e0, ← e1, ← e2]
  have st : ∀ {v : Value} {d : DataW H} {ps : List MemPlace}, DataW.Trod enc Tryd.prog W 0 (fun _ => true) true 37 v d ps → (∀ x ∈ ps, x.block < W.heap.size) → DataW.Trod enc Tryd.prog W' 0 (fun b => decide (b < W.heap.size)) true 37 v d ps :=
    fun T hp => WideElems.Trod_stays (P := Tryd.prog) (by kernel_rfl) (by kernel_rfl) (of_decide_eq_true (by kernel_rfl)) T (fun x hx => bel.same (hp x hx)) (fun x hx => by simpa using hp x hx)
  exact ⟨_, rfl, _, _, _, [], _, [], hW', trodAll_mk1 (shut_bool Tryd.underlying4 _), trodAll_cons_mk (st g0 (fun x hx => hlt x (by simp [hx]))) (trodAll_cons_mk (st g1 (fun x hx => hlt x (by simp [hx]))) (trodAll_cons_mk (st g2 (fun x hx => hlt x (by simp [hx]))) trodAll_mk0)), rfl, bel.frame _, fun h => by cases h⟩
set_option maxRecDepth 100000 in
theorem lifted (os : Os) (started : os.Started) (H : Type) (enc : TypeId × Value → H) (F : Stop.Interp) :
    ReturnsInHanded {} Tryd.checked os 4 .any ((OpenSpec.ofChange Rows.confOrdersSpec).preRow enc Tryd.prog Tryd.f4 Rows.confOrdersRow.domain false Rows.confOrdersRow.laid) (((OpenSpec.ofChange Rows.confOrdersSpec).at F).post enc Tryd.prog Tryd.f4 false true false false) := by
  obtain ⟨places, hx⟩ := reads os enc
  refine returnsInHanded_of_row (C := Tryd.checked) (s := OpenSpec.ofChange Rows.confOrdersSpec) own started (by kernel_rfl) Tryd.func4
    (witness_row_at (enc := enc) (C := Tryd.checked) false (World.laidAll Tryd.prog os Rows.confOrdersRow.laid) #[nothing, nothing, nothing] (World.laidAll_os _ _ _) (by kernel_rfl) (by kernel_rfl) (by kernel_rfl)
      (OpenSpec.preRow_of_cond 8 hx (by kernel_rfl) (fun k hk => by cases hk) (by kernel_rfl) (laid_met os _))) ?_
  intro W base args ds gs before hval hW _ _ hsz _ _ _
  exact contract H enc W base args ds gs before hval hW hsz
theorem said : Rows.ConfOrdersSaid :=
  OpenClaim.holds_of_cond 4 Tryd.f4 rfl rfl rfl rfl rfl rfl rfl ⟨rfl, rfl, rfl, rfl, rfl⟩ rfl rfl rfl rfl rfl (by kernel_rfl) Tryd.func4 (by kernel_rfl)
    (of_decide_eq_true (by kernel_rfl)) (by unfold Func.isWrapper; first | (rw [if_pos (by decide +kernel)]; kernel_rfl) | (rw [if_neg (by decide +kernel)]; exact ⟨rfl, rfl⟩))
    (fun os started H enc _ F => by rw [OpenClaim.pre_eq_preRow]; exact lifted os started H enc F)
theorem plain (f : FuncId) (fn : Func) (hf : Tryd.pinned.checked.prog.funcNamed "masthead/mastkeep2.ConfOrders" = some f) (hfn : Tryd.pinned.checked.prog.funcs[f]? = some fn) :
    true = Tryd.pinned.checked.prog.looks [] ∧ ∀ (j : Nat) t, fn.params[j]? = some t → Tryd.pinned.checked.prog.wantsStandIn t = false := by
  obtain rfl : f = 4 := Option.some.inj ((show Tryd.prog.funcNamed "masthead/mastkeep2.ConfOrders" = some 4 by kernel_rfl).symm.trans hf) |>.symm
  obtain rfl : fn = Tryd.f4 := (Option.some.inj (Tryd.func4.symm.trans hfn)).symm
  refine ⟨by kernel_rfl, fun j t ht => ?_⟩
  rw [Tryd.params4] at ht
  obtain rfl : t = 37 := by
    have hm : t ∈ [37, 37, 37] := by simpa using Array.mem_of_getElem? ht
    simpa using hm
  exact (show Tryd.prog.wantsStandIn 37 = false by kernel_rfl)
theorem card : Rows.ConfOrdersCardSaid :=
  Claim7.holds_tied_plain_at .later [] _ _ _ _ said (fun _ h => by cases h) (by kernel_rfl) (fun _ h => by cases h) confOrders_row_tie rfl ⟨rfl, rfl⟩ (by kernel_rfl) rfl plain (by kernel_rfl)
#print axioms card
end Go.Proofs.YtnndipcggegclaaDoor.confOrders
namespace Go.Proofs.YtnndipcggegclaaDoor
/-- The card, under a short name, for the claim. -/
theorem confOrders_holds : Rows.ConfOrdersCardSaid := confOrders.card
end Go.Proofs.YtnndipcggegclaaDoor
