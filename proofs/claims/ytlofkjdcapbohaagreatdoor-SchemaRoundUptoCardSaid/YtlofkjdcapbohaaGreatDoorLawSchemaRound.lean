/- SchemaRound's row, where what it reads is of bulk at most 1048576, and its tied card: a schema is read as a tree no row of which is long, the walk and the law of SchemaValue and ReadSchema are joined. -/
import Derived.Test.YtlofkjdcapbohaaGreatDoorCards
import Derived.Test.YtlofkjdcapbohaaGreatDoorTie
import Derived.Test.YtlofkjdcapbohaaGreatDoorOpensB
import Derived.Test.YtlofkjdcapbohaaGreatDoorCfU
import Derived.Test.YtlofkjdcapbohaaGreatDoorPureSchemaRoundB
import Derived.WalkKit
import Derived.ProofKit
import Derived.OpenShut
import Derived.ShutString
import Derived.Below
import Derived.LaidMore
import Derived.Lay
import Derived.SevenTiedAt
import Derived.Stop.Joined
import Derived.Deep.DeepHandedRow
import Derived.Deep.DeepWitnessRowRef
namespace Go.Proofs.YtlofkjdcapbohaaGreatDoor.schemaRound
open Go.ChangeShapes Go.WideShapes Go.ChangeAt Go.RowKit Go.Proofs.YtlofkjdcapbohaaGreatDoor.PConfKeeps Go.Proofs.YtlofkjdcapbohaaGreatDoorW.PrintWords Go.Proofs.YtlofkjdcapbohaaGreatDoor.OB
open Go.ChangeMaps (open_string shut_string)
set_option linter.unusedVariables false
set_option maxRecDepth 100000

/-! ### An argument's reading is a tree -/
def Bk : Nat := 1048576
def wfP (wf : S25 → Prop) (p : Int × Bool × Int × ByteArray × List S25 × List ByteArray) : Prop :=
 wfInt .i64 p.1 ∧ wfBool p.2.1 ∧ wfInt .i64 p.2.2.1 ∧ wfStr Bk p.2.2.2.1 ∧ wfSl Bk wf p.2.2.2.2.1 ∧ wfSl Bk (wfStr Bk) p.2.2.2.2.2
def wfN : Nat → S25 → Prop
 | 0, _ => False
 | n + 1, x => wfP (wfN n) (x.f0, x.f1, x.f2, x.f3, x.f4, x.f5)
/-- The struct's fields, as the program has them. -/
def flds : List Field := [{ name := "Kind", type := 3, offset := 0, embedded := false, tag := "", pkgPath := "", byteOffset := 0 }, { name := "Bool", type := 4, offset := 1, embedded := false, tag := "", pkgPath := "", byteOffset := 8 }, { name := "Int", type := 3, offset := 2, embedded := false, tag := "", pkgPath := "", byteOffset := 16 }, { name := "Text", type := 9, offset := 3, embedded := false, tag := "", pkgPath := "", byteOffset := 24 }, { name := "Items", type := 22, offset := 4, embedded := false, tag := "", pkgPath := "", byteOffset := 40 }, { name := "Keys", type := 23, offset := 5, embedded := false, tag := "", pkgPath := "", byteOffset := 64 }]
theorem opens25 : ∀ n, Opens Bk Tryz.prog (Kd.upto F25 6 [9, 25] n) (wfN n) 25 n
 | 0 => opens_zero _ _ _
 | n + 1 => by
  have ih := opens25 n
  have hsz : Tryz.prog.cellsOf 25 = (Kd.upto F25 6 [9, 25] n).sz := by rw [sz25 n]; kernel_rfl
  have hF : OpensF Bk Tryz.prog (Kd.pair (Kd.int .i64) (Kd.pair Kd.bool (Kd.pair (Kd.int .i64) (Kd.pair Kd.string (Kd.pair (Kd.slice 25 (Kd.upto F25 6 [9, 25] n)) (Kd.slice 9 Kd.string)))))) (wfP (wfN n)) flds 0 n :=
   opensF_cons (off2 := 1) (opens_int Tryz.underlying3 n) (opensF_cons (off2 := 2) (opens_bool Tryz.underlying4 n) (opensF_cons (off2 := 3) (opens_int Tryz.underlying3 n) (opensF_cons (off2 := 4) (opens_str Tryz.underlying9 n)
    (opensF_cons (off2 := 5) ((opens_slice Tryz.underlying22 hsz ih).mono (Nat.le_succ n)) (opensF_one ((opens_slice Tryz.underlying23 (by kernel_rfl) (opens_str Tryz.underlying9 n)).mono (Nat.le_succ n)) rfl (by kernel_rfl)) rfl (by kernel_rfl) rfl) rfl (by kernel_rfl) rfl) rfl (by kernel_rfl) rfl) rfl (by kernel_rfl) rfl) rfl (by kernel_rfl) rfl
  exact opens_struct (wf := wfP (wfN n)) (fun x : S25 => (x.f0, x.f1, x.f2, x.f3, x.f4, x.f5)) (fun p => ⟨p.1, p.2.1, p.2.2.1, p.2.2.2.1, p.2.2.2.2.1, p.2.2.2.2.2⟩) (fun _ => rfl) Tryz.underlying25 (by kernel_rfl) hF
theorem fits_of : ∀ n x, wfN n x → Pure.Fits n x
 | 0, _, h => h.elim
 | n + 1, x, h => by
  obtain ⟨_, _, _, h3, ⟨h4, h4'⟩, ⟨h5, h5'⟩⟩ := h
  dsimp only at h3 h4 h4' h5 h5'
  unfold wfStr Bk at h3
  unfold Bk at h4 h5
  exact ⟨by omega, by omega, by omega, fun a ha => by have := h5' a ha; unfold wfStr Bk at this; omega, fun a ha => fits_of n a (h4' a ha)⟩
theorem opens25k (n : Nat) : Opens Bk Tryz.prog k25 (wfN n) 25 n := fun H enc w base spare held fuel cs x hf h hw => by
 obtain ⟨y, hy, hwf⟩ := opens25 n H enc w base spare held fuel cs x hf h hw
 exact ⟨y, ⟨n, hy⟩, hwf⟩
def wf44 (n : Nat) (x : S44) : Prop := wfStr Bk x.f0 ∧ wfInt .i64 x.f1 ∧ wfBool x.f2 ∧ wfBool x.f3 ∧ wfInt .i64 x.f4 ∧ wfInt .i64 x.f5 ∧ wfSl Bk (wfStr Bk) x.f6 ∧ wfN (n + 1) x.f7
def flds44 : List Field := [{ name := "Route", type := 9, offset := 0, embedded := false, tag := "", pkgPath := "", byteOffset := 0 }, { name := "Kind", type := 3, offset := 1, embedded := false, tag := "", pkgPath := "", byteOffset := 16 }, { name := "Need", type := 4, offset := 2, embedded := false, tag := "", pkgPath := "", byteOffset := 24 }, { name := "Bounded", type := 4, offset := 3, embedded := false, tag := "", pkgPath := "", byteOffset := 25 }, { name := "Min", type := 3, offset := 4, embedded := false, tag := "", pkgPath := "", byteOffset := 32 }, { name := "Max", type := 3, offset := 5, embedded := false, tag := "", pkgPath := "", byteOffset := 40 }, { name := "OneOf", type := 23, offset := 6, embedded := false, tag := "", pkgPath := "", byteOffset := 48 }, { name := "Default", type := 25, offset := 7, embedded := false, tag := "", pkgPath := "", byteOffset := 72 }]
theorem opens44 (n : Nat) : Opens Bk Tryz.prog k44 (wf44 n) 44 (n + 2) := by
 have hF : OpensF Bk Tryz.prog (Kd.pair Kd.string (Kd.pair (Kd.int .i64) (Kd.pair Kd.bool (Kd.pair Kd.bool (Kd.pair (Kd.int .i64) (Kd.pair (Kd.int .i64) (Kd.pair (Kd.slice 9 Kd.string) k25))))))) (fun p => wfStr Bk p.1 ∧ wfInt .i64 p.2.1 ∧ wfBool p.2.2.1 ∧ wfBool p.2.2.2.1 ∧ wfInt .i64 p.2.2.2.2.1 ∧ wfInt .i64 p.2.2.2.2.2.1 ∧ wfSl Bk (wfStr Bk) p.2.2.2.2.2.2.1 ∧ wfN (n + 1) p.2.2.2.2.2.2.2) flds44 0 (n + 1) :=
  opensF_cons (off2 := 1) (opens_str Tryz.underlying9 (n + 1)) (opensF_cons (off2 := 2) (opens_int Tryz.underlying3 (n + 1)) (opensF_cons (off2 := 3) (opens_bool Tryz.underlying4 (n + 1)) (opensF_cons (off2 := 4) (opens_bool Tryz.underlying4 (n + 1)) (opensF_cons (off2 := 5) (opens_int Tryz.underlying3 (n + 1)) (opensF_cons (off2 := 6) (opens_int Tryz.underlying3 (n + 1))
   (opensF_cons (off2 := 7) (opens_slice Tryz.underlying23 (by kernel_rfl) (opens_str Tryz.underlying9 n)) (opensF_one (opens25k (n + 1)) rfl (by kernel_rfl)) rfl (by kernel_rfl) rfl) rfl (by kernel_rfl) rfl) rfl (by kernel_rfl) rfl) rfl (by kernel_rfl) rfl) rfl (by kernel_rfl) rfl) rfl (by kernel_rfl) rfl) rfl (by kernel_rfl) rfl
 exact opens_struct (fun x : S44 => (x.f0, x.f1, x.f2, x.f3, x.f4, x.f5, x.f6, x.f7)) (fun p => ⟨p.1, p.2.1, p.2.2.1, p.2.2.2.1, p.2.2.2.2.1, p.2.2.2.2.2.1, p.2.2.2.2.2.2.1, p.2.2.2.2.2.2.2⟩) (fun _ => rfl) Tryz.underlying44 (by kernel_rfl) hF
def k41 : Kd (List S44 × Bool) := Kd.iso (Kd.pair (Kd.slice 44 k44) Kd.bool) (fun p => p)
def flds41 : List Field := [{ name := "Fields", type := 39, offset := 0, embedded := false, tag := "", pkgPath := "", byteOffset := 0 }, { name := "Strict", type := 4, offset := 1, embedded := false, tag := "", pkgPath := "", byteOffset := 24 }]
theorem opens41 (n : Nat) : Opens Bk Tryz.prog k41 (fun p => wfSl Bk (wf44 n) p.1 ∧ wfBool p.2) 41 (n + 4) := by
 have hF : OpensF Bk Tryz.prog (Kd.pair (Kd.slice 44 k44) Kd.bool) (fun p => wfSl Bk (wf44 n) p.1 ∧ wfBool p.2) flds41 0 (n + 3) :=
  opensF_cons (off2 := 1) (opens_slice Tryz.underlying39 (by kernel_rfl) (opens44 n)) (opensF_one (opens_bool Tryz.underlying4 (n + 3)) rfl (by kernel_rfl)) rfl (by kernel_rfl) rfl
 exact opens_struct (fun p : List S44 × Bool => p) (fun p => p) (fun _ => rfl) Tryz.underlying41 (by kernel_rfl) hF
/-- the types of a schema and a value -/
def okT (t : TypeId) : Prop := t = 3 ∨ t = 4 ∨ t = 9 ∨ t = 22 ∨ t = 23 ∨ t = 25 ∨ t = 39 ∨ t = 41 ∨ t = 44
theorem okT_flat : Bulk.Flat Tryz.prog okT := by
 rintro t (rfl | rfl | rfl | rfl | rfl | rfl | rfl | rfl | rfl)
 ·rw [Tryz.underlying3]; trivial
 ·rw [Tryz.underlying4]; trivial
 ·rw [Tryz.underlying9]; trivial
 ·rw [Tryz.underlying22]; show okT 25; unfold okT; simp
 ·rw [Tryz.underlying23]; show okT 9; unfold okT; simp
 ·rw [Tryz.underlying25]
  intro f hf
  unfold okT
  simp at hf
  rcases hf with rfl | rfl | rfl | rfl | rfl | rfl <;> simp
 ·rw [Tryz.underlying39]; show okT 44; unfold okT; simp
 ·rw [Tryz.underlying41]
  intro f hf
  unfold okT
  simp at hf
  rcases hf with rfl | rfl <;> simp
 ·rw [Tryz.underlying44]
  intro f hf
  unfold okT
  simp at hf
  rcases hf with rfl | rfl | rfl | rfl | rfl | rfl | rfl | rfl <;> simp
theorem open_schema {H : Type} {enc : TypeId × Value → H} {w : World} {base : Nat} {spare : Nat → Bool} {held : Bool} {v : Value} {x : DataW H} {ps : List MemPlace}
  (hv : DataW.Trod enc Tryz.prog w base spare held 41 v x ps) (hw : Rows.uptoBulk x ≤ 1048576) : ∃ y : List S44 × Bool, k41.K w y v.cells.toList ∧ ∀ f ∈ y.1, Pure.FOk 1048577 f ∧ (f.f0.size ≤ maxLen ∧ f.f0.size ≤ 140737488351232) ∧ f.f6.length ≤ 2000000 := by
 obtain ⟨fuel, hf⟩ := hv
 have hf' := Bulk.trod_cut enc Tryz.prog w base spare held okT okT_flat fuel 41 v.cells.toList (x, ps) (by unfold okT; simp) hf (Rows.uptoBulk x) (Nat.le_refl _)
 obtain ⟨y, hy, hwf⟩ := opens41 (Rows.uptoBulk x) H enc w base spare held _ _ _ (by omega) hf' hw
 refine ⟨y, hy, fun f hf => ?_⟩
 obtain ⟨h0, _, _, _, _, _, ⟨h6, h6'⟩, h7⟩ := hwf.1.2 f hf
 unfold Bk at h6
 unfold wfStr Bk at h0
 exact ⟨⟨Pure.fits_mono _ _ _ (by omega) (fits_of _ _ h7), by omega, fun s hs => by have := h6' s hs; unfold wfStr Bk at this; omega⟩, ⟨by unfold maxLen; omega, by omega⟩, by omega⟩
theorem agg_of41 {w : World} {y : List S44 × Bool} {v : Value} (h : k41.K w y v.cells.toList) : v = .agg v.cells.toList.toArray := by
 have hl := k41.K_len h
 cases v <;> first | rfl | (simp [Value.cells] at hl; exact absurd hl (by decide))
theorem k41_open {w : World} {y : List S44 × Bool} {cs : List Value} (h : k41.K w y cs) : ∃ A c, cs = [.slice A y.1.length c, .bool y.2] ∧ y.1.length ≤ c ∧ Kd.C k44 w A y.1.length y.1 := by
 obtain ⟨_, _, rfl, ⟨A, c, rfl, l1, g1⟩, rfl⟩ := h
 exact ⟨A, c, rfl, l1, g1⟩
/-- The walk at a schema. -/
theorem walk_schema (s : List S44 × Bool) (hs : ∀ f ∈ s.1, Pure.FOk 1048577 f ∧ (f.f0.size ≤ maxLen ∧ f.f0.size ≤ 140737488351232) ∧ f.f6.length ≤ 2000000) (w : World) (hkn : KN w) (cs : List Value) (ks : k41.K w s cs) :
  Calls Tryz.prog 6 #[.agg cs.toArray] w fun e w' => e = .returned (.bool true) ∧ Below w.heap.size w w' := by
 obtain ⟨A, c, rfl, lc, qs⟩ := k41_open ks
 rcases Pure.SchemaRound (n := 1048577) (by omega) s.1 s.2 (fun f hf => (hs f hf).1) (fun f hf => (hs f hf).2.1) (fun f hf => (hs f hf).2.2) with ⟨k, x, er, h1, h2, h3⟩ | ⟨k, x, t, F, a, b1, b2, h1, h2, h3, h4, h5⟩
 ·exact schema_bad k s.1 A c s.2 x w hkn qs lc (fun f hf => (hs f hf).2.1.1) er h1 h2 h3
 ·exact schema_good k s.1 A c s.2 x w hkn qs lc (fun f hf => (hs f hf).2.1.1) t F a b1 b2 h1 h2 h3 h4 h5
/-! ### The names of the kinds, laid -/
theorem names_data : (Rows.laid_masthead_conf_kindNames : DataW Unit) = .slice (kNames.map fun s => .lit (.string s.data.toList)) [] := by
 unfold Rows.laid_masthead_conf_kindNames kNames
 rfl
theorem names_of {W : World} {fuel : Nat} {cs : List Value} {p : List MemPlace} (hd : DataW.trod (fun _ => ()) Tryz.prog W 0 (fun _ => true) false fuel 23 cs = some (Rows.laid_masthead_conf_kindNames, p)) : ∃ A c, cs = [.slice A 7 c] ∧ Kd.C Kd.string W A 7 kNames := by
 rw [names_data] at hd
 rcases DataW.trod_slice Tryz.underlying23 hd with ⟨_, hx⟩ | ⟨a, len, cap, elems, rest, m, _, rfl, hx, _, hlc, hcm, hel, he, _, _⟩
 ·injection hx with hx _; cases hx
 ·injection hx with hx _
  injection hx with hx _
  have h7 : len = 7 := by
   have := congrArg List.length hx
   rw [List.length_map, List.length_map, hel] at this
   exact this.symm
  subst h7
  refine ⟨some a, cap, rfl, rfl, by decide, fun _ => ⟨a, rfl, fun j s hj => ?_⟩⟩
  have hjl : j < 7 := (List.getElem?_eq_some_iff.1 hj).1
  have h1 := he j hjl
  have hje : j < elems.length := by omega
  rw [List.getElem?_eq_getElem hje] at h1
  obtain ⟨c, hcc, htr⟩ := Option.bind_eq_some_iff.1 h1
  obtain ⟨_, hcl, hcell⟩ := World.cells?_some hcc
  obtain ⟨s', rfl, hs', _⟩ := DataW.trod_string Tryz.underlying9 htr
  have hlit : (elems.map (·.1))[j]? = some (DataW.lit (.string s'.data.toList)) := by
   rw [List.getElem?_map, List.getElem?_eq_getElem hje, Option.map_some, hs']
  rw [← hx, List.getElem?_map, hj, Option.map_some] at hlit
  injection hlit with hlit
  injection hlit with hlit
  injection hlit with hlit
  have hss : s = s' := Pure.tl_inj (by rw [Pure.tl_eq, Pure.tl_eq]; exact hlit)
  subst hss
  have hc1 : Tryz.prog.cellsOf 9 = 1 := by kernel_rfl
  refine ⟨[.string s], rfl, rfl, fun q u hu => ?_⟩
  have hq : q < Tryz.prog.cellsOf 9 := by
   rcases Nat.lt_or_ge q [Value.string s].length with hq | hq
   ·rw [hc1]; exact hq
   ·rw [List.getElem?_eq_none hq] at hu; cases hu
  have h2 := hcell q hq
  rw [hu, hc1, Addr.add_add] at h2
  exact h2

/-! ### The row -/
theorem own : ownKnob Tryz.prog.godebug = none := by kernel_rfl
theorem plainH (W : World) : laidMetH Tryz.prog Rows.schemaRoundUptoRow.laid W = laidMet Tryz.prog Rows.schemaRoundUptoRow.laid W := MakeChecks.laidMetH_plain _ _ _ (by kernel_rfl)
theorem laid_met (os : Os) (args : Array Value) : laidMetH Tryz.prog Rows.schemaRoundUptoRow.laid ((World.laidAll Tryz.prog os Rows.schemaRoundUptoRow.laid).forCall (fun _ _ => 0) ⟨#[], args, []⟩).memory := by
 rw [plainH]
 exact laidMet_laidAll _ (by kernel_rfl) (by kernel_rfl)
def nothing41 : Value := .agg #[.slice none 0 0, .bool false]
def nothing41D {H : Type} : DataW H := .agg [.nil, .lit (.bool false)]
theorem table (W : World) (h : laidMetH Tryz.prog Rows.schemaRoundUptoRow.laid W) : KN W := by
 rw [plainH] at h
 obtain ⟨ps, ⟨_, _, _, _, _, _, _, _, _, _, ⟨_, _, _, _, _, _, _, _, _, _, ⟨_, _, _, _, _, _, _, _, _, _, ⟨_, _, _, _, _, _, _, _, _, _, ⟨_, _, _, _, _, _, _, _, _, _, ⟨_, _, _, _, _, _, _, _, _, _, ⟨g, t, cs, fuel, p, q, hg, ht, hvar, hd, _, _⟩, _⟩, _⟩, _⟩, _⟩, _⟩, _⟩, _⟩ := h
 have hg0 : Tryz.prog.globalNamed "masthead/conf.kindNames" = some 0 := by kernel_rfl
 obtain rfl : 0 = g := Option.some.inj (hg0.symm.trans hg)
 obtain rfl : 23 = t := Option.some.inj ((show (Tryz.prog.globals[0]?).map (·.type) = some 23 by kernel_rfl).symm.trans ht)
 obtain ⟨A, c, hcs, hC⟩ := names_of hd
 refine ⟨A, c, ?_, hC⟩
 have h1 := World.var?_cell hg0 hvar 0
 rw [h1]
 have h2 : cs.toList[0]? = some (.slice A 7 c) := by rw [hcs]; rfl
 rwa [Array.getElem?_toList] at h2
theorem reads (os : Os) {H : Type} (enc : TypeId × Value → H) : ∃ x, DataW.whole enc Tryz.prog ((World.laidAll Tryz.prog os Rows.schemaRoundUptoRow.laid).forCall (fun _ _ => 0) ⟨#[], #[nothing41], []⟩).memory Tryz.f6.params.toList Rows.schemaRoundSpec.vars false #[nothing41].toList 8 = some ([nothing41D], [], x) :=
 ⟨[], by kernel_rfl⟩
theorem contract (H : Type) (enc : TypeId × Value → H) (W : World) (base : Nat) (args : Array Value) (ds gs : List (DataW H)) (before : List MemPlace)
  (hval0 : ∀ (j : Nat) t v, Tryz.f6.params[j]? = some t → args[j]? = some v → Value.okWide Tryz.prog W .any base t v)
  (hW : DataW.Whole enc Tryz.prog Tryz.f6.params.toList Rows.schemaRoundSpec.vars false W args.toList ds gs before)
  (hcond : Rows.uptoSmall H (ds ++ gs) = true)
  (hsz0 : (DataW.weightsEach Tryz.prog (Tryz.f6.params.toList ++ (OpenSpec.ofChange Rows.schemaRoundSpec).bare.plain.varTypes Tryz.prog) (ds ++ gs)).all (· ≤ reachBytes) = true) (hp : KN W) :
  Calls Tryz.prog 6 args W fun e W' => ∃ v, e = .returned v ∧ Rows.schemaRoundSpec.post enc Tryz.prog Tryz.f6 false true false false W args v W' := by
 have hval : ∀ (j : Nat) t v, Tryz.f6.params[j]? = some t → args[j]? = some v → Value.okWide Tryz.prog W .any base t v := hval0
 have hsz := hsz0
 have hW' := hW
 obtain ⟨p, q, hA0, hV, rfl, hfz, hnd⟩ := hW
 have hA : DataW.TrodAll enc Tryz.prog W 0 (fun _ => true) true Tryz.f6.params.toList args.toList ds p := hA0
 rw [Tryz.params6] at hA hval hsz
 obtain ⟨v0, vs0, d0, ds0, p0, q0, hargs, rfl, rfl, h0, r0⟩ := trodAll_cons hA
 obtain ⟨rfl, rfl, rfl⟩ := trodAll_nil r0
 obtain rfl : args = #[v0] := by cases args; simp_all
 obtain ⟨rfl, rfl⟩ := trodVars_none hV
 have hbulk : Rows.uptoBulk d0 ≤ 1048576 := by
  have h_ : Rows.uptoBulkAll ([d0] ++ []) ≤ 1048576 := of_decide_eq_true hcond
  rw [List.append_nil, Rows.uptoBulkAll, Rows.uptoBulkAll] at h_
  omega
 obtain ⟨a, ka, fa⟩ := open_schema h0 hbulk
 have e0 := agg_of41 ka
 have g0 := h0
 have hlt := hW'.lt
 rw [e0]
 refine (walk_schema a fa W hp _ ka).mono fun e W' ⟨he, bel⟩ => ?_
 subst he
 rw [← e0]
 have st : ∀ {v : Value} {d : DataW H} {ps : List MemPlace}, DataW.Trod enc Tryz.prog W 0 (fun _ => true) true 41 v d ps → (∀ x ∈ ps, x.block < W.heap.size) → DataW.Trod enc Tryz.prog W' 0 (fun b => decide (b < W.heap.size)) true 41 v d ps := by
  intro v d ps T hp
  exact WideElems.Trod_stays (P := Tryz.prog) (by kernel_rfl) (by kernel_rfl) (of_decide_eq_true (by kernel_rfl)) T (fun x hx => bel.same (hp x hx)) (fun x hx => by simpa using hp x hx)
 exact ⟨_, rfl, _, _, _, [], _, [], hW', trodAll_mk1 (shut_bool Tryz.underlying4 _), trodAll_cons_mk (st g0 (fun x hx => hlt x (by simp [hx]))) trodAll_mk0, rfl, bel.frame _, fun h => by cases h⟩
set_option maxRecDepth 100000 in
theorem lifted (os : Os) (started : os.Started) (H : Type) (enc : TypeId × Value → H) (F : Stop.Interp) :
  ReturnsInHanded {} Tryz.checked os 6 .any ((Rows.OpenSpec.upto Rows.schemaRoundSpec).preRow enc Tryz.prog Tryz.f6 Rows.schemaRoundUptoRow.domain false Rows.schemaRoundUptoRow.laid) (((Rows.OpenSpec.upto Rows.schemaRoundSpec).at F).post enc Tryz.prog Tryz.f6 false true false false) := by
 obtain ⟨places, hx⟩ := reads os enc
 refine returnsInHanded_of_row (C := Tryz.checked) (s := Rows.OpenSpec.upto Rows.schemaRoundSpec) own started (by kernel_rfl) Tryz.func6
  (witness_row_atRef (enc := enc) (C := Tryz.checked) false (World.laidAll Tryz.prog os Rows.schemaRoundUptoRow.laid) #[nothing41] (World.laidAll_os _ _ _) (by kernel_rfl) (by kernel_rfl) (by kernel_rfl)
   (OpenSpec.preRow_of_cond 8 hx (by kernel_rfl) (fun k hk => by cases hk; rfl) (by kernel_rfl) (laid_met os _))) ?_
 intro W base args ds gs before hval hW _ hcond hsz hlaid _ _
 exact contract H enc W base args ds gs before hval hW (hcond _ rfl) hsz (table W hlaid)
theorem said : Rows.SchemaRoundUptoSaid :=
 OpenClaim.holds_of_cond 6 Tryz.f6 rfl rfl rfl rfl rfl rfl rfl ⟨rfl, rfl, rfl, rfl, rfl⟩ rfl rfl rfl rfl rfl (by kernel_rfl) Tryz.func6 (by kernel_rfl)
  (of_decide_eq_true (by kernel_rfl)) (by unfold Func.isWrapper; first | (rw [if_pos (by decide +kernel)]; kernel_rfl) | (rw [if_neg (by decide +kernel)]; exact ⟨rfl, rfl⟩))
  (fun os started H enc _ F => by rw [OpenClaim.pre_eq_preRow]; exact lifted os started H enc F)
theorem plain (f : FuncId) (fn : Func) (hf : Tryz.pinned.checked.prog.funcNamed "masthead/mastkeep2.SchemaRound" = some f) (hfn : Tryz.pinned.checked.prog.funcs[f]? = some fn) :
  true = Tryz.pinned.checked.prog.looks [] ∧ ∀ (j : Nat) t, fn.params[j]? = some t → Tryz.pinned.checked.prog.wantsStandIn t = false := by
 obtain rfl : f = 6 := Option.some.inj ((show Tryz.prog.funcNamed "masthead/mastkeep2.SchemaRound" = some 6 by kernel_rfl).symm.trans hf) |>.symm
 obtain rfl : fn = Tryz.f6 := (Option.some.inj (Tryz.func6.symm.trans hfn)).symm
 refine ⟨by kernel_rfl, fun j t ht => ?_⟩
 rw [Tryz.params6] at ht
 have hm : t ∈ [41] := by simpa using Array.mem_of_getElem? ht
 simp at hm
 subst hm
 exact (show Tryz.prog.wantsStandIn 41 = false by kernel_rfl)
theorem card : Rows.SchemaRoundUptoCardSaid :=
 Claim7.holds_tied_plain_at .later [] _ _ _ _ said (fun _ h => by cases h) (by kernel_rfl) (fun _ h => by cases h) schemaRoundUpto_row_tie rfl ⟨rfl, rfl⟩ (by kernel_rfl) rfl plain (by kernel_rfl)
#print axioms card
end Go.Proofs.YtlofkjdcapbohaaGreatDoor.schemaRound
namespace Go.Proofs.YtlofkjdcapbohaaGreatDoor
/-- The card, under a short name, for the claim. -/
theorem schemaRound_holds : Rows.SchemaRoundUptoCardSaid := schemaRound.card
end Go.Proofs.YtlofkjdcapbohaaGreatDoor
