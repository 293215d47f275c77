/- RuleRound's row, where what it reads is of bulk at most 1048576, and its tied card: a rule is read as trees no row of which is long, the walk and the law of RuleString, ReadRule and Form are joined. -/
import Derived.Test.YtilmjckpphlniaaDoorCards
import Derived.Test.YtilmjckpphlniaaDoorTie
import Derived.Test.YtilmjckpphlniaaDoorOpensB
import Derived.Test.YtilmjckpphlniaaDoorRuK
import Derived.Test.YtilmjckpphlniaaDoorPureRuleRoundB
import Derived.WalkKit
import Derived.ProofKit
import Derived.OpenShut
import Derived.ShutString
import Derived.Below
import Derived.LaidMore
import Derived.Lay
import Derived.Lib.LaidTab
import Derived.SevenTiedAt
import Derived.Stop.Joined
import Derived.Deep.DeepHandedRow
namespace Go.Proofs.YtilmjckpphlniaaDoor.ruleRound
open Go.ChangeShapes Go.WideShapes Go.ChangeAt Go.RowKit Go.Proofs.YtilmjckpphlniaaDoor.PRuleRound Go.Proofs.YtilmjckpphlniaaDoorW.PrintWords Go.Proofs.YtilmjckpphlniaaDoor.OB
set_option linter.unusedVariables false
set_option maxRecDepth 100000

/-! ### An argument's reading is a tree -/
def Bk : Nat := 1048576
def wfP (wf : S47 → Prop) (p : Int × Int × Int × Int × List S47) : Prop := wfInt .i64 p.1 ∧ wfInt .i64 p.2.1 ∧ wfInt .i64 p.2.2.1 ∧ wfInt .i64 p.2.2.2.1 ∧ wfSl Bk wf p.2.2.2.2
def wfN : Nat → S47 → Prop
  | 0, _ => False
  | n + 1, x => wfP (wfN n) (x.f0, x.f1, x.f2, x.f3, x.f4)
/-- The struct's fields, as the program has them. -/
def flds : List Field := [{ name := "Op", type := 3, offset := 0, embedded := false, tag := "", pkgPath := "", byteOffset := 0 }, { name := "Modulus", type := 3, offset := 1, embedded := false, tag := "", pkgPath := "", byteOffset := 8 }, { name := "Low", type := 3, offset := 2, embedded := false, tag := "", pkgPath := "", byteOffset := 16 }, { name := "High", type := 3, offset := 3, embedded := false, tag := "", pkgPath := "", byteOffset := 24 }, { name := "Kids", type := 22, offset := 4, embedded := false, tag := "", pkgPath := "", byteOffset := 32 }]
theorem opens47 : ∀ n, Opens Bk Tryd.prog (Kd.upto F47 5 [47] n) (wfN n) 47 n
  | 0 => opens_zero _ _ _
  | n + 1 => by
    have ih := opens47 n
    have hsz : Tryd.prog.cellsOf 47 = (Kd.upto F47 5 [47] n).sz := by rw [sz47 n]; kernel_rfl
    have hF : OpensF Bk Tryd.prog (Kd.pair (Kd.int .i64) (Kd.pair (Kd.int .i64) (Kd.pair (Kd.int .i64) (Kd.pair (Kd.int .i64) (Kd.slice 47 (Kd.upto F47 5 [47] n)))))) (wfP (wfN n)) flds 0 n :=
      opensF_cons (off2 := 1) (opens_int Tryd.underlying3 n) (opensF_cons (off2 := 2) (opens_int Tryd.underlying3 n) (opensF_cons (off2 := 3) (opens_int Tryd.underlying3 n) (opensF_cons (off2 := 4) (opens_int Tryd.underlying3 n)
        (opensF_one ((opens_slice Tryd.underlying22 hsz ih).mono (Nat.le_succ n)) rfl (by kernel_rfl)) rfl (by kernel_rfl) rfl) rfl (by kernel_rfl) rfl) rfl (by kernel_rfl) rfl) rfl (by kernel_rfl) rfl
    exact opens_struct (wf := wfP (wfN n)) (fun x : S47 => (x.f0, x.f1, x.f2, x.f3, x.f4)) (fun p => ⟨p.1, p.2.1, p.2.2.1, p.2.2.2.1, p.2.2.2.2⟩) (fun _ => rfl) Tryd.underlying47 (by kernel_rfl) hF
theorem fits_of : ∀ n x, wfN n x → Pure.Fits n x
  | 0, _, h => h.elim
  | n + 1, x, h => by
    obtain ⟨_, _, _, _, h4, h4'⟩ := h
    dsimp only at h4 h4'
    unfold Bk at h4
    exact ⟨by omega, fun a ha => fits_of n a (h4' a ha)⟩
theorem opens47k (n : Nat) : Opens Bk Tryd.prog k47 (wfN n) 47 n := fun H enc w base spare held fuel cs x hf h hw => by
  obtain ⟨y, hy, hwf⟩ := opens47 n H enc w base spare held fuel cs x hf h hw
  exact ⟨y, ⟨n, hy⟩, hwf⟩
def k24 : Kd (List S47) := Kd.iso (Kd.slice 47 k47) (fun p => p)
def flds24 : List Field := [{ name := "Forms", type := 22, offset := 0, embedded := false, tag := "", pkgPath := "", byteOffset := 0 }]
theorem opens24 (n : Nat) : Opens Bk Tryd.prog k24 (wfSl Bk (wfN n)) 24 (n + 2) := by
  have hF : OpensF Bk Tryd.prog (Kd.slice 47 k47) (wfSl Bk (wfN n)) flds24 0 (n + 1) := opensF_one (opens_slice Tryd.underlying22 (by kernel_rfl) (opens47k n)) rfl (by kernel_rfl)
  exact opens_struct (fun p : List S47 => p) (fun p => p) (fun _ => rfl) Tryd.underlying24 (by kernel_rfl) hF
/-- the types of a rule -/
def okT (t : TypeId) : Prop := t = 3 ∨ t = 22 ∨ t = 24 ∨ t = 47
theorem okT_flat : Bulk.Flat Tryd.prog okT := by
  rintro t (rfl | rfl | rfl | rfl)
  · rw [Tryd.underlying3]; trivial
  · rw [Tryd.underlying22]; show okT 47; unfold okT; simp
  · rw [Tryd.underlying24]
    intro f hf
    unfold okT
    simp at hf
    subst hf
    simp
  · rw [Tryd.underlying47]
    intro f hf
    unfold okT
    simp at hf
    rcases hf with rfl | rfl | rfl | rfl | rfl <;> simp
theorem open_rule {H : Type} {enc : TypeId × Value → H} {w : World} {base : Nat} {spare : Nat → Bool} {held : Bool} {v : Value} {x : DataW H} {ps : List MemPlace}
    (hv : DataW.Trod enc Tryd.prog w base spare held 24 v x ps) (hw : Rows.uptoBulk x ≤ 1048576) : ∃ y : List S47, k24.K w y v.cells.toList ∧ y.length ≤ 2097152 ∧ ∀ t ∈ y, Pure.Fits 1048576 t := by
  obtain ⟨fuel, hf⟩ := hv
  have hf' := Bulk.trod_cut enc Tryd.prog w base spare held okT okT_flat fuel 24 v.cells.toList (x, ps) (by unfold okT; simp) hf (Rows.uptoBulk x) (Nat.le_refl _)
  obtain ⟨y, hy, hwf⟩ := opens24 (Rows.uptoBulk x) H enc w base spare held _ _ _ (by omega) hf' hw
  have h1 := hwf.1
  unfold Bk at h1
  exact ⟨y, hy, by omega, fun t ht => Pure.fits_mono _ _ hw _ (fits_of _ _ (hwf.2 t ht))⟩
theorem k24_open {w : World} {y : List S47} {cs : List Value} (h : k24.K w y cs) : ∃ A c, cs = [.slice A y.length c] ∧ y.length ≤ c ∧ Kd.C k47 w A y.length y := by
  obtain ⟨A, c, rfl, l1, g1⟩ := h
  exact ⟨A, c, rfl, l1, g1⟩
/-- The walk at a rule. -/
theorem walk_rule (l : List S47) (hl : l.length ≤ 2097152) (hf : ∀ t ∈ l, Pure.Fits 1048576 t) (n : Int) (w : World) (hp : PT w.heap.size w) (cs : List Value) (ks : k24.K w l cs) :
    Calls Tryd.prog 3 #[.agg cs.toArray, .int .i64 n] w fun e w' => e = .returned (.bool true) ∧ Below w.heap.size w w' := by
  obtain ⟨A, c, rfl, lc, qs⟩ := k24_open ks
  obtain ⟨k, e, h1, h2⟩ := Pure.RuleRound (n := 1048576) (by omega) l hl hf n
  by_cases he : e = 0
  · subst he
    obtain ⟨hok, h6, hne, a, ha, a0, a1⟩ := h2 rfl
    by_cases hlong : 2000 < (rtext l).length
    · exact law_long k l A c n w.heap.size w hp qs lc h1 hok h6 hlong
    · exact law_good k l A c n a w.heap.size w hp qs lc h1 hok h6 hlong hne ha a0 a1
  · exact law_bad k l A c n e w qs lc h1 he

/-! ### The row -/
theorem own : ownKnob Tryd.prog.godebug = none := by kernel_rfl
theorem plainH (W : World) : laidMetH Tryd.prog Rows.ruleRoundUptoRow.laid W = laidMet Tryd.prog Rows.ruleRoundUptoRow.laid W := MakeChecks.laidMetH_plain _ _ _ (by kernel_rfl)
theorem laid_met (os : Os) (args : Array Value) : laidMetH Tryd.prog Rows.ruleRoundUptoRow.laid ((World.laidAll Tryd.prog os Rows.ruleRoundUptoRow.laid).forCall (fun _ _ => 0) ⟨#[], args, []⟩).memory := by
  rw [plainH]
  exact laidMet_laidAll _ (by kernel_rfl) (by kernel_rfl)
theorem pow_data : (Rows.laid_internal_strconv_uint64pow10 : DataW Unit) = Lib.tabData .u64 Lib.pow10Tab := by
  unfold Lib.tabData Lib.pow10Tab Rows.laid_internal_strconv_uint64pow10
  rfl
theorem table (W : World) (h : laidMetH Tryd.prog Rows.ruleRoundUptoRow.laid W) : PT W.heap.size W := by
  rw [plainH] at h
  obtain ⟨ps, ⟨_, _, _, _, _, _, _, _, _, _, ⟨_, _, _, _, _, _, _, _, _, _, ⟨g, t, cs, fuel, p, q, hg, ht, hvar, hd, _, _⟩, _⟩, _⟩, _⟩ := h
  have hg0 : Tryd.prog.globalNamed "internal/strconv.uint64pow10" = some 1 := by kernel_rfl
  obtain rfl : 1 = g := Option.some.inj (hg0.symm.trans hg)
  obtain rfl : 131 = t := Option.some.inj ((show (Tryd.prog.globals[1]?).map (·.type) = some 131 by kernel_rfl).symm.trans ht)
  rw [pow_data] at hd
  have tab : Lib.TabIs Tryd.prog W "internal/strconv.uint64pow10" .u64 Lib.pow10Tab := by
    unfold Lib.TabIs
    rw [hvar, ← Lib.cells_of_tab (t := 131) (e := 79) (n := 20) Tryd.underlying131 Tryd.underlying79 (by kernel_rfl) (by kernel_rfl) hd]
  refine ⟨tab, ?_, Nat.le_refl _⟩
  unfold Lib.TabIs World.var? at tab
  rw [hg0, Option.bind_some] at tab
  rcases Nat.lt_or_ge 1 W.heap.size with h' | h'
  · exact h'
  · rw [Array.getElem?_eq_none h'] at tab; cases tab
def nothing24 : Value := .agg #[.slice none 0 0]
def nothing24D {H : Type} : DataW H := .agg [.nil]
theorem reads (os : Os) {H : Type} (enc : TypeId × Value → H) : ∃ x, DataW.whole enc Tryd.prog ((World.laidAll Tryd.prog os Rows.ruleRoundUptoRow.laid).forCall (fun _ _ => 0) ⟨#[], #[nothing24, .int .i64 0], []⟩).memory Tryd.f3.params.toList Rows.ruleRoundSpec.vars false #[nothing24, .int .i64 0].toList 8 = some ([nothing24D, .lit (.int .i64 0)], [], x) :=
  ⟨[], by kernel_rfl⟩
theorem contract (H : Type) (enc : TypeId × Value → H) (W : World) (base : Nat) (args : Array Value) (ds gs : List (DataW H)) (before : List MemPlace)
    (hval0 : ∀ (j : Nat) t v, Tryd.f3.params[j]? = some t → args[j]? = some v → Value.okWide Tryd.prog W .any base t v)
    (hW : DataW.Whole enc Tryd.prog Tryd.f3.params.toList Rows.ruleRoundSpec.vars false W args.toList ds gs before)
    (hcond : Rows.uptoSmall H (ds ++ gs) = true) (hp : PT W.heap.size W) :
    Calls Tryd.prog 3 args W fun e W' => ∃ v, e = .returned v ∧ Rows.ruleRoundSpec.post enc Tryd.prog Tryd.f3 false true false false W args v W' := by
  have hval : ∀ (j : Nat) t v, Tryd.f3.params[j]? = some t → args[j]? = some v → Value.okWide Tryd.prog W .any base t v := hval0
  have hW' := hW
  obtain ⟨p, q, hA0, hV, rfl, hfz, hnd⟩ := hW
  have hA : DataW.TrodAll enc Tryd.prog W 0 (fun _ => true) true Tryd.f3.params.toList args.toList ds p := hA0
  rw [Tryd.params3] at hA hval
  obtain ⟨v0, vs0, d0, ds0, p0, q0, hargs, rfl, rfl, h0, r0⟩ := trodAll_cons hA
  obtain ⟨v1, vs1, d1, ds1, p1, q1, rfl, rfl, rfl, h1, r1⟩ := trodAll_cons r0
  obtain ⟨rfl, rfl, rfl⟩ := trodAll_nil r1
  obtain rfl : args = #[v0, v1] := by cases args; simp_all
  obtain ⟨rfl, rfl⟩ := trodVars_none hV
  have hbulk : Rows.uptoBulk d0 ≤ 1048576 := by
    have h_ : Rows.uptoBulkAll ([d0, d1] ++ []) ≤ 1048576 := of_decide_eq_true hcond
    rw [List.append_nil, Rows.uptoBulkAll, Rows.uptoBulkAll] at h_
    omega
  obtain ⟨a, ka, la, fa⟩ := open_rule h0 hbulk
  obtain ⟨cs0, hcs, _⟩ := okWide_struct Tryd.underlying24 (hval 0 24 v0 rfl rfl)
  have e0 : v0 = .agg v0.cells.toList.toArray := by rw [hcs]; rfl
  have g0 := h0
  obtain ⟨a1, rfl, rfl, rfl, w1⟩ := open_int Tryd.underlying3 (hval 1 3 v1 rfl rfl) h1
  have hlt := hW'.lt
  rw [e0]
  refine (walk_rule a la fa a1 W hp _ ka).mono fun e W' ⟨he, bel⟩ => ?_
  subst he
  rw [← e0]
  have st : ∀ {v : Value} {d : DataW H} {ps : List MemPlace}, DataW.Trod enc Tryd.prog W 0 (fun _ => true) true 24 v d ps → (∀ x ∈ ps, x.block < W.heap.size) → DataW.Trod enc Tryd.prog W' 0 (fun b => decide (b < W.heap.size)) true 24 v d ps := by
    intro v d ps T hp
    exact WideElems.Trod_stays (P := Tryd.prog) (by kernel_rfl) (by kernel_rfl) (of_decide_eq_true (by kernel_rfl)) T (fun x hx => bel.same (hp x hx)) (fun x hx => by simpa using hp x hx)
  exact ⟨_, rfl, _, _, _, [], _, [], hW', trodAll_mk1 (shut_bool Tryd.underlying4 _), trodAll_cons_mk (st g0 (fun x hx => hlt x (by simp [hx]))) (trodAll_cons_mk (shut_int Tryd.underlying3 w1) trodAll_mk0), rfl, bel.frame _, fun h => by cases h⟩
set_option maxRecDepth 100000 in
theorem lifted (os : Os) (started : os.Started) (H : Type) (enc : TypeId × Value → H) (F : Stop.Interp) :
    ReturnsInHanded {} Tryd.checked os 3 .any ((Rows.OpenSpec.upto Rows.ruleRoundSpec).preRow enc Tryd.prog Tryd.f3 Rows.ruleRoundUptoRow.domain false Rows.ruleRoundUptoRow.laid) (((Rows.OpenSpec.upto Rows.ruleRoundSpec).at F).post enc Tryd.prog Tryd.f3 false true false false) := by
  obtain ⟨places, hx⟩ := reads os enc
  refine returnsInHanded_of_row (C := Tryd.checked) (s := Rows.OpenSpec.upto Rows.ruleRoundSpec) own started (by kernel_rfl) Tryd.func3
    (witness_row_at (enc := enc) (C := Tryd.checked) false (World.laidAll Tryd.prog os Rows.ruleRoundUptoRow.laid) #[nothing24, .int .i64 0] (World.laidAll_os _ _ _) (by kernel_rfl) (by kernel_rfl) (by kernel_rfl)
      (OpenSpec.preRow_of_cond 8 hx (by kernel_rfl) (fun k hk => by cases hk; rfl) (by kernel_rfl) (laid_met os _))) ?_
  intro W base args ds gs before hval hW _ hcond hsz hlaid _ _
  exact contract H enc W base args ds gs before hval hW (hcond _ rfl) (table W hlaid)
theorem said : Rows.RuleRoundUptoSaid :=
  OpenClaim.holds_of_cond 3 Tryd.f3 rfl rfl rfl rfl rfl rfl rfl ⟨rfl, rfl, rfl, rfl, rfl⟩ rfl rfl rfl rfl rfl (by kernel_rfl) Tryd.func3 (by kernel_rfl)
    (of_decide_eq_true (by kernel_rfl)) (by unfold Func.isWrapper; first | (rw [if_pos (by decide +kernel)]; kernel_rfl) | (rw [if_neg (by decide +kernel)]; exact ⟨rfl, rfl⟩))
    (fun os started H enc _ F => by rw [OpenClaim.pre_eq_preRow]; exact lifted os started H enc F)
theorem plain (f : FuncId) (fn : Func) (hf : Tryd.pinned.checked.prog.funcNamed "masthead/mastkeep2.RuleRound" = some f) (hfn : Tryd.pinned.checked.prog.funcs[f]? = some fn) :
    true = Tryd.pinned.checked.prog.looks [] ∧ ∀ (j : Nat) t, fn.params[j]? = some t → Tryd.pinned.checked.prog.wantsStandIn t = false := by
  obtain rfl : f = 3 := Option.some.inj ((show Tryd.prog.funcNamed "masthead/mastkeep2.RuleRound" = some 3 by kernel_rfl).symm.trans hf) |>.symm
  obtain rfl : fn = Tryd.f3 := (Option.some.inj (Tryd.func3.symm.trans hfn)).symm
  refine ⟨by kernel_rfl, fun j t ht => ?_⟩
  rw [Tryd.params3] at ht
  have hm : t ∈ [24, 3] := by simpa using Array.mem_of_getElem? ht
  simp at hm
  rcases hm with rfl | rfl
  · exact (show Tryd.prog.wantsStandIn 24 = false by kernel_rfl)
  · exact (show Tryd.prog.wantsStandIn 3 = false by kernel_rfl)
theorem card : Rows.RuleRoundUptoCardSaid :=
  Claim7.holds_tied_plain_at .later [] _ _ _ _ said (fun _ h => by cases h) (by kernel_rfl) (fun _ h => by cases h) ruleRoundUpto_row_tie rfl ⟨rfl, rfl⟩ (by kernel_rfl) rfl plain (by kernel_rfl)
#print axioms card
end Go.Proofs.YtilmjckpphlniaaDoor.ruleRound
namespace Go.Proofs.YtilmjckpphlniaaDoor
/-- The card, under a short name, for the claim. -/
theorem ruleRound_holds : Rows.RuleRoundUptoCardSaid := ruleRound.card
end Go.Proofs.YtilmjckpphlniaaDoor
