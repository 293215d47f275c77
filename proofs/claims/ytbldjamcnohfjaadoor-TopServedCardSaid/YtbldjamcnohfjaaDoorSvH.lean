/- For TopServed: slices.Clone of outputs, walked. No condition. -/
import Derived.Test.YtbldjamcnohfjaaDoorSvA
import Derived.WalkLawsBesides
namespace Go.Proofs.YtbldjamcnohfjaaDoor.PTopServed
open Go.RowKit Go.Proofs.YtbldjamcnohfjaaDoorW.PrintWords Go.Proofs.YtbldjamcnohfjaaDoorW.PrintLast Go.Proofs.YtbldjamcnohfjaaDoorW.PrintMore
set_option linter.unusedVariables false
set_option linter.unusedSimpArgs false
theorem info30s : (Tryd.prog.info? 30).map (fun i => (i.zero, i.size, i.bytes)) = some (some (.agg #[.string ⟨#[]⟩, .string ⟨#[]⟩]), 2, 32) := by kernel_rfl
set_option maxHeartbeats 1500000 in
set_option maxRecDepth 100000 in
theorem clone_calls (A : Option Addr) (c : Nat) (l : List S30) (w : World) (hr : Kd.C k30 w A l.length l) (hlen : l.length ≤ 1000000000) :
    Calls Tryd.prog 6 #[.slice A l.length c] w fun e w' => ∃ v, e = .returned v ∧ Kd.R k30 30 w' w.heap.size (fun _ => True) v l ∧ Below w.heap.size w w' := by
  cases A with
  | none =>
    have h0 : l = [] := by
      rcases Nat.eq_zero_or_pos l.length with h | h
      · exact List.eq_nil_of_length_eq_zero h
      · obtain ⟨ad, e, _⟩ := hr.2.2 h
        cases e
    subst h0
    clear hr
    have hnl := fun w => Lib.run_eql_slice_nil (P := Tryd.prog) w 22 30 none 0 c 0 0 Tryd.underlying22
    go_enter Tryd.func6, Tryd.ntmps6
    go_wp2
    go_ret
    exact ⟨_, rfl, Kd.R_nil _ _ _ _ _, Below.refl _ _⟩
  | some ad =>
    have HR := Aside0.mk hr
    clear hr
    have hu30 := Tryd.underlying30
    have hnl := fun w => Lib.run_eql_slice_nil (P := Tryd.prog) w 22 30 (some ad) l.length c 0 0 Tryd.underlying22
    go_enter Tryd.func6, Tryd.ntmps6
    go_upto_region 3 with (fail)
    have HB := Aside0.mk (Below.refl w.heap.size w)
    go_wp2_with (first | ((with_reducible refine gate_dst (N := 5) rfl ?_); (refine Kd.R_lit k30 (w0 := w) w.heap.size 30 rfl (N := 5) rfl (xs := []) (inner := []) (ok := fun _ => True) (okp := fun _ => True) ?lR (Reps.none _ _) (fun _ _ => trivial) trivial HB.out (Nat.le_refl _) (by decide) ?_; (case lR => first | (go_simp; done) | (go_simp; rfl)); intro v1 w1 ho hb hg hat; have HO := Aside0.mk ho; have HB1 := Aside0.mk hb; clear ho hb hg hat)) | ((with_reducible refine gate_builtin (b := .append) (xs := #[.tmp 5, .tmp 6]) rfl ?_); at_builtin; (refine Kd.R_append_rows k30 (w0 := w) w.heap.size rfl (.tmp 5) (.tmp 6) 22 30 (.agg #[.string ⟨#[]⟩, .string ⟨#[]⟩]) 32 rfl Tryd.underlying22 info30s rfl (by decide) (by omega) _ [] l (some ad) l.length c (fun _ => True) (fun _ => False) rfl rfl HO.out (Kd.C_below HR.out HB1.out) ?aK (fun _ hk => hk.elim) (fun _ _ => trivial) HB1.out (below_size HB1.out) ?aL ?_; (case aK => exact fun x cs h => h); (case aL => simp; omega); intro v2 w2 ho hb hg hat; have HO2 := Aside0.mk ho; have HB2 := Aside0.mk hb; clear ho hb hg hat)))
    go_ret
    exact ⟨_, rfl, HO2.out, HB2.out⟩
end Go.Proofs.YtbldjamcnohfjaaDoor.PTopServed
