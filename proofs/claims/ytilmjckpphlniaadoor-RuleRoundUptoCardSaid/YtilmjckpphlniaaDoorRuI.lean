/- For the law RuleRound: awakeLang, walked (ReadMessage of a lone brace is refused). No condition. -/
import Derived.Test.YtilmjckpphlniaaDoorRuH
import Derived.Test.YtilmjckpphlniaaDoorPRuleRoundx9
namespace Go.Proofs.YtilmjckpphlniaaDoor.PRuleRound
open Go.RowKit Go.Proofs.YtilmjckpphlniaaDoorW.PrintWords Go.Proofs.YtilmjckpphlniaaDoorW.PrintLast Go.Proofs.YtilmjckpphlniaaDoorW.PrintMore
set_option linter.unusedVariables false
set_option linter.unusedSimpArgs false

/-- a message's reader in its box -/
structure Rm (w0 : World) (g : Nat) (i a e p : Int) (w : World) : Prop where
  S : w.heap[g]? = some (.cells #[.string ⟨#[123]⟩, .int .i64 i, .int .i64 a, .int .i64 e, .int .i64 p] 59 (0, 0))
  ge : w0.heap.size ≤ g
  B : Below w0.heap.size w0 w
section
variable {w0 w W : World} {g : Nat} {i a e p i' a' e' p' : Int} {l : List (Nat × Array Value × Nat)}
theorem Rm.of (h : Rm w0 g i a e p w) (hI : IsS59 w0 W g ⟨#[123]⟩ i' a' e' p') (hB : Below w0.heap.size w0 W) (hK : KeepBut w W g none) : Rm w0 g i' a' e' p' W ∧ w.grownBy W (some g) :=
  ⟨⟨hI.1, hI.2, hB⟩, ⟨hB.os.trans h.B.os.symm, hB.tape.trans h.B.tape.symm, hB.output.trans h.B.output.symm, hK.1, fun k hk hne => hK.2 k hk (fun e => hne (by rw [e])) (by simp)⟩⟩
theorem Bg.rm (h : Bg w g W l) (hr : Rm w0 g i a e p w) (k : Nat) (hi : l[k]? = some (g, #[.string ⟨#[123]⟩, .int .i64 i', .int .i64 a', .int .i64 e', .int .i64 p'], 59)) : Rm w0 g i' a' e' p' W :=
  ⟨h.get k hi, hr.ge, hr.B.grown h.G hr.B.size (fun k e => by injection e with e; subst e; exact hr.ge)⟩
theorem skip_m (hr : Rm w0 g 1 0 0 1 w) : Calls Tryd.prog 72 #[.pointer (some ⟨g, 0, none⟩)] w fun e w' => e = .returned (.tuple #[]) ∧ Rm w0 g 1 0 0 1 w' ∧ w.grownBy w' (some g) := by
  refine (lang_reader_skip.calls 4 g ⟨#[123]⟩ 1 0 0 1 _ _ _ _ _ w0 w ⟨hr.S, hr.ge⟩ hr.B (by rfl)).mono ?_
  rintro e w' ⟨rfl, hI, hB, hK⟩
  exact ⟨rfl, hr.of hI hB hK⟩
theorem wrong_m (hr : Rm w0 g 1 0 0 1 w) : Calls Tryd.prog 46 #[.pointer (some ⟨g, 0, none⟩)] w fun e w' => e = .returned (.tuple #[]) ∧ Rm w0 g 1 1 8 1 w' ∧ w.grownBy w' (some g) := by
  refine (lang_reader_wrong.calls g ⟨#[123]⟩ 1 0 0 1 _ _ _ _ _ w0 w ⟨hr.S, hr.ge⟩ hr.B (by rfl)).mono ?_
  rintro e w' ⟨rfl, hI, hB, hK⟩
  exact ⟨rfl, hr.of hI hB hK⟩
theorem piece_m (hr : Rm w0 g 0 0 0 0 w) : Calls Tryd.prog 47 #[.pointer (some ⟨g, 0, none⟩), .int .i64 0] w fun e w' => e = .returned (.tuple #[]) ∧ Rm w0 g 0 0 0 1 w' ∧ w.grownBy w' (some g) := by
  refine (lang_reader_piece.calls g ⟨#[123]⟩ 0 0 0 0 0 ⟨#[123]⟩ 0 0 0 1 w0 w ⟨hr.S, hr.ge⟩ hr.B (by unfold lang_reader_piece.f; rw [show wrap64 ((0 : Int) + 1) = 1 from wr_id (by decide) (by decide), if_neg (by decide)])).mono ?_
  rintro e w' ⟨rfl, hI, hB, hK⟩
  exact ⟨rfl, hr.of hI hB hK⟩
theorem control_m (w : World) : Calls Tryd.prog 45 #[.int .u8 123] w fun e w' => e = .returned (.bool false) ∧ Below w.heap.size w w' := by
  refine (lang_isControl.calls 123 false w (by rfl)).mono ?_
  rintro e w' ⟨rfl, h⟩
  exact ⟨rfl, h.below⟩
end
set_option maxHeartbeats 2000000 in
set_option maxRecDepth 100000 in
theorem word_m (w0 w : World) (g : Nat) (hr : Rm w0 g 1 0 0 1 w) : Calls Tryd.prog 60 #[.pointer (some ⟨g, 0, none⟩)] w fun e w' => e = .returned (.tuple #[.string ((⟨#[123]⟩ : ByteArray).extract 1 1), .int .i64 1]) ∧ Rm w0 g 1 1 8 1 w' ∧ w.grownBy w' (some g) := by
  have hu59 := Tryd.underlying59
  have HRU := Aside0.mk hr
  have HP := Aside0.mk (Bg.start hr.S)
  clear hr
  go_enter Tryd.func60, Tryd.ntmps60
  go_upto_region 2 with (go_at_call 72; refine (skip_m (HP.out.rm HRU.out 0 rfl)).mono ?_; rintro e w1 ⟨rfl, hr_, hg_⟩; have n0 := Aside0.mk (HP.out.move 0 rfl hg_ hr_.S); clear HP; have HP := n0; clear n0; clear hr_ hg_)
  have yg0 : w1.cell? ⟨g, 0, none⟩ = some (.string ⟨#[123]⟩) := (blk_cell (HP.out.get 0 rfl) 0).trans rfl
  have yg1 : w1.cell? ⟨g, 1, none⟩ = some (.int .i64 1) := (blk_cell (HP.out.get 0 rfl) 1).trans rfl
  go_wp2_with fail
  refine wp_loop_rounds 1 ?_
  rw [rounds_succ]
  go_upto_region 10 with (go_at_call 46; refine (wrong_m (HP.out.rm HRU.out 0 rfl)).mono ?_; rintro e w2 ⟨rfl, hr_, hg_⟩; have n0 := Aside0.mk (HP.out.move 0 rfl hg_ hr_.S); clear HP; have HP := n0; clear n0; clear hr_ hg_; have yh0 : w2.cell? ⟨g, 0, none⟩ = some (.string ⟨#[123]⟩) := (blk_cell (HP.out.get 0 rfl) 0).trans rfl; have yh1 : w2.cell? ⟨g, 1, none⟩ = some (.int .i64 1) := (blk_cell (HP.out.get 0 rfl) 1).trans rfl; have zh1 := blk_frozen (HP.out.get 0 rfl) 1)
  go_upto_region 11 with (fail)
  have n0 := Aside0.mk (HP.out.put 0 rfl 1 (.int .i64 1) rfl)
  clear HP
  have HP := n0
  clear n0
  clear yg0 yg1 yh0 yh1 zh1
  generalize (w2.setCell ⟨g, 1, none⟩ (.int .i64 1)) = w3 at HP ⊢
  have yg0 : w3.cell? ⟨g, 0, none⟩ = some (.string ⟨#[123]⟩) := (blk_cell (HP.out.get 0 rfl) 0).trans rfl
  have yg1 : w3.cell? ⟨g, 1, none⟩ = some (.int .i64 1) := (blk_cell (HP.out.get 0 rfl) 1).trans rfl
  go_wp2_with fail
  go_ret2
  exact ⟨rfl, HP.out.rm HRU.out 0 rfl, HP.out.G⟩
theorem Bg.three {w W : World} {br g t : Nat} {l : List (Nat × Array Value × Nat)} {c0 c1 c2 : Value} (h : Bg w br W l) (i : Nat) (hi : l[i]? = some (g, #[c0, c1, c2], t)) (v0 v1 v2 : Value) :
    Bg w br (((W.setCell ⟨g, 0, none⟩ v0).setCell ⟨g, 1, none⟩ v1).setCell ⟨g, 2, none⟩ v2) (l.set i (g, #[v0, v1, v2], t)) := by
  obtain ⟨a0, b0⟩ := h.put' i hi 0 v0 (cs' := #[v0, c1, c2]) rfl
  obtain ⟨a1, b1⟩ := a0.put' i b0 1 v1 (cs' := #[v0, v1, c2]) rfl
  obtain ⟨a2, _⟩ := a1.put' i b1 2 v2 (cs' := #[v0, v1, v2]) rfl
  rw [List.set_set, List.set_set] at a2
  exact a2
set_option maxHeartbeats 2000000 in
set_option maxRecDepth 100000 in
theorem braces_m (w0 w : World) (g : Nat) (x : ByteArray) (hx : (⟨#[123]⟩ : ByteArray).extract 1 1 = x) (hr : Rm w0 g 1 0 0 1 w) : Calls Tryd.prog 48 #[.pointer (some ⟨g, 0, none⟩), .int .i64 1, .bool false] w fun e w' => e = .returned (.agg #[.int .i64 1, .string x, .slice none 0 0]) ∧ Rm w0 g 1 1 8 1 w' ∧ w.grownBy w' (some g) := by
  have hu59 := Tryd.underlying59
  have hu87 := Tryd.underlying87
  have HXX := Aside0.mk hx
  have HRU := Aside0.mk hr
  have HP := Aside0.mk (Bg.start hr.S)
  clear hr hx
  go_enter Tryd.func48, Tryd.ntmps48
  go_upto_region 2 with (first | ((with_reducible refine gate_dst (N := 6) rfl ?_); refine box_event ?hg (N := 6) ?hd (cs := #[.int .i64 0, .string ⟨#[]⟩, .slice none 0 0]) (t := 87) ?hr ?_; (case hd => rfl); (case hg => rfl); (case hr => first | (go_simp; done) | (go_simp; rfl)); intro br hg_ w1 hbox hb; have n0 := Aside0.mk (HP.out.new hg_ hbox hb); clear HP; have HP := n0; clear n0; clear hg_ hbox hb) | (go_at_call 60; refine (word_m w0 _ g (HP.out.rm HRU.out 1 rfl)).mono ?_; rintro e w2 ⟨he, hr_, hg_⟩; rw [HXX.out] at he; subst he; have n0 := Aside0.mk (HP.out.move 1 rfl hg_ hr_.S); clear HP; have HP := n0; clear n0; clear hr_ hg_))
  have yg3 : w2.cell? ⟨g, 3, none⟩ = some (.int .i64 8) := (blk_cell (HP.out.get 1 rfl) 3).trans rfl
  go_upto_region 5 with ((with_reducible refine gate_dst (N := 9) rfl ?_); refine box_event ?hg (N := 9) ?hd (cs := #[.int .i64 0, .string ⟨#[]⟩, .slice none 0 0]) (t := 87) ?hr ?_; (case hd => rfl); (case hg => rfl); (case hr => first | (go_simp; done) | (go_simp; rfl)); intro bp hg_ w3 hbox hb; have n0 := Aside0.mk (HP.out.new hg_ hbox hb); clear HP; have HP := n0; clear n0; clear hg_ hbox hb; have yp0 : w3.cell? ⟨bp, 0, none⟩ = some (.int .i64 0) := (blk_cell (HP.out.get 0 rfl) 0).trans rfl; have yp1 : w3.cell? ⟨bp, 1, none⟩ = some (.string ⟨#[]⟩) := (blk_cell (HP.out.get 0 rfl) 1).trans rfl; have yp2 : w3.cell? ⟨bp, 2, none⟩ = some (.slice none 0 0) := (blk_cell (HP.out.get 0 rfl) 2).trans rfl; have zp0 := blk_frozen (HP.out.get 0 rfl) 0; have zp1 := blk_frozen (HP.out.get 0 rfl) 1; have zp2 := blk_frozen (HP.out.get 0 rfl) 2)
  have n0 := Aside0.mk (HP.out.three 0 rfl (.int .i64 1) (.string x) (.slice none 0 0))
  clear HP
  have HP := n0
  clear n0
  clear yg3 yp0 zp0 yp1 zp1 yp2 zp2
  generalize (((w3.setCell ⟨bp, 0, none⟩ (.int .i64 1)).setCell ⟨bp, 1, none⟩ (.string x)).setCell ⟨bp, 2, none⟩ (.slice none 0 0)) = w4 at HP ⊢
  have yg3 : w4.cell? ⟨g, 3, none⟩ = some (.int .i64 8) := (blk_cell (HP.out.get 2 rfl) 3).trans rfl
  have yp0 : w4.cell? ⟨bp, 0, none⟩ = some (.int .i64 1) := (blk_cell (HP.out.get 0 rfl) 0).trans rfl
  have yp1 : w4.cell? ⟨bp, 1, none⟩ = some (.string x) := (blk_cell (HP.out.get 0 rfl) 1).trans rfl
  have yp2 : w4.cell? ⟨bp, 2, none⟩ = some (.slice none 0 0) := (blk_cell (HP.out.get 0 rfl) 2).trans rfl
  have yr0 : w4.cell? ⟨br, 0, none⟩ = some (.int .i64 0) := (blk_cell (HP.out.get 1 rfl) 0).trans rfl
  have yr1 : w4.cell? ⟨br, 1, none⟩ = some (.string ⟨#[]⟩) := (blk_cell (HP.out.get 1 rfl) 1).trans rfl
  have yr2 : w4.cell? ⟨br, 2, none⟩ = some (.slice none 0 0) := (blk_cell (HP.out.get 1 rfl) 2).trans rfl
  have zr0 := blk_frozen (HP.out.get 1 rfl) 0
  have zr1 := blk_frozen (HP.out.get 1 rfl) 1
  have zr2 := blk_frozen (HP.out.get 1 rfl) 2
  go_wp2_with fail
  refine bodyPost_ret (results_cell_row rfl _ _ br 87 #[.int .i64 1, .string x, .slice none 0 0] (0, 0) _ rfl ((HP.out.three 1 rfl (.int .i64 1) (.string x) (.slice none 0 0)).get 1 rfl) Tryd.underlying87 rfl (by kernel_rfl)) rfl ?_
  have ha := (HP.out.three 1 rfl (.int .i64 1) (.string x) (.slice none 0 0))
  exact ⟨rfl, ha.rm HRU.out 2 rfl, ha.G⟩
set_option maxHeartbeats 1000000 in
theorem flush_m (w : World) (bp bo : Nat) (h : w.heap[bp]? = some (.cells #[.slice none 0 0] 67 (0, 0))) : Calls Tryd.prog 44 #[.pointer (some ⟨bp, 0, none⟩), .pointer (some ⟨bo, 0, none⟩)] w fun e w' => e = .returned (.tuple #[]) ∧ w = w' := by
  have hu67 := Tryd.underlying67
  have y0 : w.cell? ⟨bp, 0, none⟩ = some (.slice none 0 0) := (blk_cell h 0).trans rfl
  clear h
  go_enter Tryd.func44, Tryd.ntmps44
  go_wp2_with fail
  exact bodyPost_end (results_none rfl _ _ _) rfl ⟨rfl, rfl⟩
theorem info87r : (Tryd.prog.info? 87).map (fun i => (i.zero, i.size, i.bytes)) = some (some (.agg #[.int .i64 0, .string ⟨#[]⟩, .slice none 0 0]), (Kd.raw 3).sz, 48) := by kernel_rfl
def rmc : Nat → Array Value
  | 0 => #[.string ⟨#[123]⟩, .int .i64 1, .int .i64 1, .int .i64 8, .int .i64 1]
  | _ => #[.string ⟨#[123]⟩, .int .i64 0, .int .i64 0, .int .i64 0, .int .i64 0]
def AnyM (w0 w : World) (g : Nat) (e : Ending) (w' : World) : Prop := ∃ v, e = .returned v ∧ Rm w0 g 1 1 8 1 w' ∧ w.grownBy w' (some g)
set_option maxHeartbeats 4000000 in
set_option maxRecDepth 100000 in
theorem message_m (w0 w : World) (g : Nat) (hr : Rm w0 g 0 0 0 0 w) : Calls Tryd.prog 22 #[.pointer (some ⟨g, 0, none⟩), .int .i64 1, .bool false] w (AnyM w0 w g) := by
  have hu59 := Tryd.underlying59
  have hu34 := Tryd.underlying34
  have hu67 := Tryd.underlying67
  have HRU := Aside0.mk hr
  have HP := Aside0.mk (Bg.start hr.S)
  have LG := Aside0.mk (blk_lt hr.S)
  obtain ⟨x, hx⟩ : ∃ x, (⟨#[123]⟩ : ByteArray).extract 1 1 = x := ⟨_, rfl⟩
  have HXX := Aside0.mk hx
  clear hr hx
  go_enter Tryd.func22, Tryd.ntmps22
  go_upto_region 4 with (first | ((with_reducible refine gate_dst (N := 7) rfl ?_); refine box_event ?hg (N := 7) ?hd (cs := #[.slice none 0 0]) (t := 34) ?hr ?_; (case hd => rfl); (case hg => rfl); (case hr => first | (go_simp; done) | (go_simp; rfl)); intro bo hg_ w1 hbox hb; have n0 := Aside0.mk (HP.out.new hg_ hbox hb); clear HP; have HP := n0; clear n0; clear hg_ hbox hb) | ((with_reducible refine gate_dst (N := 8) rfl ?_); refine box_event ?hg (N := 8) ?hd (cs := #[.slice none 0 0]) (t := 67) ?hr ?_; (case hd => rfl); (case hg => rfl); (case hr => first | (go_simp; done) | (go_simp; rfl)); intro bp hg_ w2 hbox hb; have n0 := Aside0.mk (HP.out.new hg_ hbox hb); clear HP; have HP := n0; clear n0; clear hg_ hbox hb))
  go_loopg [10] 1 (fun kq v10 w' => ∃ (vO : Value) (vc : Value), v10 = vc ∧ Aside0 (kq ≤ 1) ∧ Aside0 (kq = 1 → vO = .slice none 0 0) ∧ Aside0 (Bg w g w' [(bp, #[.slice none 0 0], 67), (bo, #[vO], 34), (g, rmc kq, 59)]))
  case atStart => exact ⟨.slice none 0 0, _, rfl, ⟨Nat.le_refl _⟩, ⟨fun _ => rfl⟩, HP⟩
  case round =>
    clear HP
    obtain ⟨vO, vc, rfl, HK, HV, HP⟩ := hrel
    cases gk with
    | zero =>
      have yg0 : wr.cell? ⟨g, 0, none⟩ = some (.string ⟨#[123]⟩) := (blk_cell (HP.out.get 2 rfl) 0).trans rfl
      have yg1 : wr.cell? ⟨g, 1, none⟩ = some (.int .i64 1) := (blk_cell (HP.out.get 2 rfl) 1).trans rfl
      have yg3 : wr.cell? ⟨g, 3, none⟩ = some (.int .i64 8) := (blk_cell (HP.out.get 2 rfl) 3).trans rfl
      go_upto_region 4 with (fail)
      go_quiet (fail)
      have n0 := Aside0.mk (HP.out.below (pw_below_drewN (Below.refl _ wr) nq))
      clear HP
      have HP := n0
      clear n0
      clear yg0 yg1 yg3
      generalize wr.drewN nq = w4 at HP ⊢
      have yo0 : w4.cell? ⟨bo, 0, none⟩ = some vO := (blk_cell (HP.out.get 1 rfl) 0).trans rfl
      go_wp2_with (go_at_call 44; refine (flush_m _ bp bo (HP.out.get 0 rfl)).mono ?_; rintro e w' ⟨rfl, rfl⟩)
      go_ret
      exact ⟨_, rfl, HP.out.rm HRU.out 2 rfl, HP.out.G⟩
    | succ k1 =>
      obtain rfl : k1 = 0 := by have := HK.out; omega
      have hv := HV.out rfl
      subst hv
      have yg0 : wr.cell? ⟨g, 0, none⟩ = some (.string ⟨#[123]⟩) := (blk_cell (HP.out.get 2 rfl) 0).trans rfl
      have yg1 : wr.cell? ⟨g, 1, none⟩ = some (.int .i64 0) := (blk_cell (HP.out.get 2 rfl) 1).trans rfl
      have yg3 : wr.cell? ⟨g, 3, none⟩ = some (.int .i64 0) := (blk_cell (HP.out.get 2 rfl) 3).trans rfl
      go_upto_region 4 with (fail)
      go_quiet (fail)
      have n0 := Aside0.mk (HP.out.below (pw_below_drewN (Below.refl _ wr) nq))
      clear HP
      have HP := n0
      clear n0
      clear yg0 yg1 yg3
      generalize wr.drewN nq = w4 at HP ⊢
      have yg0 : w4.cell? ⟨g, 0, none⟩ = some (.string ⟨#[123]⟩) := (blk_cell (HP.out.get 2 rfl) 0).trans rfl
      have yg1 : w4.cell? ⟨g, 1, none⟩ = some (.int .i64 0) := (blk_cell (HP.out.get 2 rfl) 1).trans rfl
      go_wp2_with fail
      go_quiet (fail)
      have n0 := Aside0.mk (HP.out.below (pw_below_drewN (Below.refl _ w4) nq))
      clear HP
      have HP := n0
      clear n0
      clear yg0 yg1
      generalize w4.drewN nq = w5 at HP ⊢
      go_upto_region 23 with (first | (go_at_call 45; refine (control_m _).mono ?_; rintro e w6 ⟨rfl, hb⟩; have n0 := Aside0.mk (HP.out.below hb); clear HP; have HP := n0; clear n0; clear hb; have yg1 : w6.cell? ⟨g, 1, none⟩ = some (.int .i64 0) := (blk_cell (HP.out.get 2 rfl) 1).trans rfl) | (go_at_call 44; refine (flush_m _ bp bo (HP.out.get 0 rfl)).mono ?_; rintro e w' ⟨rfl, rfl⟩) | (go_at_call 47; refine (piece_m (HP.out.rm HRU.out 2 rfl)).mono ?_; rintro e w7 ⟨rfl, hr_, hg_⟩; have n0 := Aside0.mk (HP.out.move 2 rfl hg_ hr_.S); clear HP; have HP := n0; clear n0; clear hr_ hg_; have yh1 : w7.cell? ⟨g, 1, none⟩ = some (.int .i64 0) := (blk_cell (HP.out.get 2 rfl) 1).trans rfl; have zh1 := blk_frozen (HP.out.get 2 rfl) 1))
      go_upto_region 24 with (fail)
      have n0 := Aside0.mk (HP.out.put 2 rfl 1 (.int .i64 1) rfl)
      clear HP
      have HP := n0
      clear n0
      clear yg1 yh1 zh1
      generalize (w7.setCell ⟨g, 1, none⟩ (.int .i64 1)) = w8 at HP ⊢
      have yg3 : w8.cell? ⟨g, 3, none⟩ = some (.int .i64 0) := (blk_cell (HP.out.get 2 rfl) 3).trans rfl
      go_upto_region 25 with (fail)
      clear yg3
      have n0 := Aside0.mk (HP.out.below (below_drew (Below.refl _ w8)))
      clear HP
      have HP := n0
      clear n0
      refine start_ (n := 8) (S := fun w' => w'.cell? ⟨bo, 0, none⟩ = some (.slice none 0 0)) (ds := [7]) #[false, false, false, false, false, false, false, false] (by kernel_rfl) rfl rfl ((blk_cell (HP.out.get 1 rfl) 0).trans rfl) (fun hHeld => ?_)
      generalize w8.drew = w9 at HP hHeld ⊢
      refine pure_ (i := 1) (N := some 144) (v := ?_) (a' := ?_) #[false, true, false, false, false, false, false, false] rfl rfl (by kernel_rfl) (fun _ _ _ h => h) (Or.inl ⟨by rfl, ?_⟩) ?_ ?_
      rotate_left
      · intro w'
        go_simp
        with_reducible rfl
      rotate_left
      · simp only [Act.put, List.setIfInBounds_toArray, List.set_cons_zero, List.set_cons_succ, i64_w, i32_w]
        rfl
      refine pure_ (i := 2) (N := some 145) (v := ?_) (a' := ?_) #[false, true, true, false, false, false, false, false] rfl rfl (by kernel_rfl) (fun _ _ _ h => h) (Or.inl ⟨by rfl, ?_⟩) ?_ ?_
      rotate_left
      · intro w'
        go_simp
        with_reducible rfl
      rotate_left
      · simp only [Act.put, List.setIfInBounds_toArray, List.set_cons_zero, List.set_cons_succ, i64_w, i32_w]
        rfl
      refine pure_ (i := 3) (N := some 146) (v := ?_) (a' := ?_) #[false, true, true, true, false, false, false, false] rfl rfl (by kernel_rfl) (fun _ _ _ h => h) (Or.inl ⟨by rfl, ?_⟩) ?_ ?_
      rotate_left
      · intro w'
        go_simp
        with_reducible rfl
      rotate_left
      · simp only [Act.put, List.setIfInBounds_toArray, List.set_cons_zero, List.set_cons_succ, i64_w, i32_w]
        rfl
      refine take_ (i := 0) (N := some 143) (v := ?_) (a' := ?_) #[true, true, true, true, false, false, false, false] rfl rfl (by kernel_rfl) (fun _ _ _ h => h) (Or.inl ⟨by rfl, ?_⟩) hHeld ?_ ?_
      rotate_left
      · intro w' s0
        go_simp
        with_reducible rfl
      rotate_left
      · simp only [Act.put, List.setIfInBounds_toArray, List.set_cons_zero, List.set_cons_succ, i64_w, i32_w]
        rfl
      refine one_ (i := 4) (N := some 147) #[true, true, true, true, true, false, false, false] rfl rfl (by kernel_rfl) (by decide) (fun K hK => ?_)
      refine goes_ Tryd.func48 (by kernel_rfl) rfl #[.pointer (some ⟨g, 0, none⟩), .int .i64 1, .bool false] (by rfl) rfl rfl (by simp only [List.map_toArray, List.map_cons, List.map_nil]; rfl) ?_
      with_reducible refine (braces_m w0 _ g x HXX.out (HP.out.rm HRU.out 2 rfl)).mono ?_
      rintro e y1 ⟨rfl, hr_, hg_⟩
      refine ⟨_, rfl, ?_⟩
      have n0 := Aside0.mk (HP.out.move 2 rfl hg_ hr_.S)
      clear HP
      have HP := n0
      clear n0
      clear hr_ hg_
      refine hK.out _ _ ((blk_cell (HP.out.get 1 rfl) 0).trans rfl) (fun hHeld => ?_)
      clear hK K
      refine norm_ (a' := ?_) ?_ ?_
      rotate_left
      · show Act.put _ (some 147) _ = _
        simp only [Act.put, List.setIfInBounds_toArray, List.set_cons_zero, List.set_cons_succ, i64_w, i32_w]
        rfl
      refine one_ (i := 5) (N := some 148) #[true, true, true, true, true, true, false, false] rfl rfl (by kernel_rfl) (by decide) (fun K hK => ?_)
      refine value_ (w1 := ?_) (v := ?_) (by rfl) rfl ?_ ?_
      rotate_left 2
      · go_simp
        constructor
        · rfl
        · rfl
      refine hK.out _ _ ((blk_cell (blk_alloc (HP.out.get 1 rfl) _) 0).trans rfl) (fun hHeld => ?_)
      clear hK K
      refine norm_ (a' := ?_) ?_ ?_
      rotate_left
      · show Act.put _ (some 148) _ = _
        simp only [Act.put, List.setIfInBounds_toArray, List.set_cons_zero, List.set_cons_succ, i64_w, i32_w]
        rfl
      refine one_ (i := 6) (N := some 149) #[true, true, true, true, true, true, true, false] rfl rfl (by kernel_rfl) (by decide) (fun K hK => ?_)
      refine Kd.R_append_step (Kd.raw 3) (w0 := y1) w.heap.size (by rfl) (.tmp 143) (.tmp 148) 34 87 (.agg #[.int .i64 0, .string ⟨#[]⟩, .slice none 0 0]) 48 rfl Tryd.underlying34 info87r rfl (by decide) (by omega) (.slice none 0 0) [] [.int .i64 1, .string x, .slice none 0 0] [.int .i64 1, .string x, .slice none 0 0] (fun k => y1.heap.size ≤ k) (fun _ => False) rfl (by rfl) ⟨rfl, rfl, fun u hu => by simp at hu; rcases hu with rfl | rfl | rfl <;> rfl⟩ (fun _ h => h.elim) (fun k hk => hk) (Kd.R_nil _ _ _ _ _) (Below.refl _ _) HP.out.size (by simp) ?_
      intro v1 y3 ho hb9 hg hat
      generalize houts : ([] ++ [[.int .i64 1, .string x, .slice none 0 0]] : List (List Value)) = outs2 at ho
      obtain ⟨A7, c7, hv7⟩ := Kd.R_slice ho
      subst hv7
      clear houts
      have n0 := Aside0.mk (HP.out.row hg (fun i h_ => by simp [Value.ownBlock] at h_) (fun i p hp h_ => by simp [Value.ownBlock] at h_))
      clear HP
      have HP := n0
      clear n0
      clear ho hb9 hg hat
      refine hK.out _ _ ((blk_cell (HP.out.get 1 rfl) 0).trans rfl) (fun hHeld => ?_)
      clear hK K
      refine norm_ (a' := ?_) ?_ ?_
      rotate_left
      · show Act.put _ (some 149) _ = _
        simp only [Act.put, List.setIfInBounds_toArray, List.set_cons_zero, List.set_cons_succ, i64_w, i32_w]
        rfl
      refine last_ (i := 7) (N := none) #[true, true, true, true, true, true, true, true] rfl rfl (by kernel_rfl) (by decide) (fun K hK => ?_)
      have yo0 : y3.cell? ⟨bo, 0, none⟩ = some (.slice none 0 0) := (blk_cell (HP.out.get 1 rfl) 0).trans rfl
      have zo0 := blk_frozen (HP.out.get 1 rfl) 0
      refine skip_ (w1 := ?_) (by rfl) rfl ?_ ?_
      rotate_left
      · go_simp
        rfl
      clear yo0 zo0
      have n0 := Aside0.mk (HP.out.put 1 rfl 0 (.slice A7 outs2.length c7) rfl)
      clear HP
      have HP := n0
      clear n0
      generalize y3.setCell ⟨bo, 0, none⟩ (.slice A7 outs2.length c7) = y4 at HP ⊢
      refine hK.out _ _ ?_
      clear hK K
      refine done_ (by kernel_rfl) ?_
      go_wp2_with fail
      go_roundg 0
      case measure => omega
      case rel => exact ⟨.slice A7 outs2.length c7, _, rfl, ⟨by omega⟩, ⟨fun h_ => by omega⟩, HP⟩
theorem Bs.mv {w W W1 : World} {l : List (Nat × Array Value × Nat)} {g t : Nat} {cs cs' : Array Value} (h : Bs w W l) (i : Nat) (hi : l[i]? = some (g, cs, t)) (hg : W.grownBy W1 (some g)) (hc : W1.heap[g]? = some (.cells cs' t (0, 0))) : Bs w W1 (l.set i (g, cs', t)) := by
  have key : ∀ (k : Nat) (p : Nat × Array Value × Nat), (l.set i (g, cs', t))[k]? = some p → (k = i ∧ p = (g, cs', t)) ∨ (k ≠ i ∧ l[k]? = some p) := by
    intro k p hp
    by_cases e : i = k
    · subst e
      have hl : i < l.length := (List.getElem?_eq_some_iff.1 hi).1
      rw [List.getElem?_set_self hl] at hp
      injection hp with hp
      exact .inl ⟨rfl, hp.symm⟩
    · rw [List.getElem?_set_ne e] at hp
      exact .inr ⟨fun h_ => e h_.symm, hp⟩
  have hne : ∀ (k : Nat) (p : Nat × Array Value × Nat), k ≠ i → l[k]? = some p → p.1 ≠ g := by
    intro k p hk hp he
    rcases Nat.lt_or_gt_of_ne hk with hlt | hlt
    · have := h.nd k i _ _ hlt hp hi; dsimp only at this; omega
    · have := h.nd i k _ _ hlt hi hp; dsimp only at this; omega
  refine ⟨fun k p hp => ?_, h.B.grown hg h.B.size (fun k e => by injection e with e; subst e; exact h.ge i _ hi), fun k p hp => ?_, fun a b p q hab hp hq => ?_⟩
  · rcases key k p hp with ⟨_, rfl⟩ | ⟨hk, hp'⟩
    · exact hc
    · exact blk_grown (h.blk k p hp') hg (fun e => by injection e with e; exact hne k p hk hp' e)
  · rcases key k p hp with ⟨_, rfl⟩ | ⟨_, hp'⟩
    · exact h.ge _ (g, cs, t) hi
    · exact h.ge k p hp'
  · rcases key a p hp with ⟨rfl, rfl⟩ | ⟨_, hp'⟩ <;> rcases key b q hq with ⟨rfl, rfl⟩ | ⟨_, hq'⟩
    · omega
    · exact h.nd _ _ (g, cs, t) q hab hi hq'
    · exact h.nd _ _ p (g, cs, t) hab hp' hi
    · exact h.nd _ _ p q hab hp' hq'
set_option maxHeartbeats 4000000 in
set_option maxRecDepth 100000 in
theorem read_m (w : World) : Calls Tryd.prog 10 #[.string ⟨#[123]⟩] w fun e w' => e = .returned (.tuple #[.agg #[.slice none 0 0], .int .i64 1, .int .i64 8]) ∧ Below w.heap.size w w' := by
  have hu59 := Tryd.underlying59
  have hu36 := Tryd.underlying36
  have HP := Aside0.mk (Bs.nil w)
  go_enter Tryd.func10, Tryd.ntmps10
  go_upto_region 4 with (first | ((with_reducible refine gate_dst (N := 2) rfl ?_); refine box_event ?hg (N := 2) ?hd (cs := #[.slice none 0 0]) (t := 36) ?hr ?_; (case hd => rfl); (case hg => rfl); (case hr => first | (go_simp; done) | (go_simp; rfl)); intro br hg_ w1 hbox hb; have n0 := Aside0.mk (HP.out.new hg_ hbox hb); clear HP; have HP := n0; clear n0; clear hg_ hbox hb) | ((with_reducible refine gate_dst (N := 13) rfl ?_); refine box_event ?hg (N := 13) ?hd (cs := #[.string ⟨#[123]⟩, .int .i64 0, .int .i64 0, .int .i64 0, .int .i64 0]) (t := 59) ?hr ?_; (case hd => rfl); (case hg => rfl); (case hr => first | (go_simp; done) | (go_simp; rfl)); intro g hg_ w2 hbox hb; have n0 := Aside0.mk (HP.out.new hg_ hbox hb); clear HP; have HP := n0; clear n0; clear hg_ hbox hb))
  go_upto_region 6 with (go_at_call 22; refine (message_m w _ g ⟨HP.out.get 0 rfl, HP.out.low 0 rfl, HP.out.B⟩).mono ?_; rintro e w3 ⟨v, rfl, hr_, hg_⟩; have n0 := Aside0.mk (HP.out.mv 0 rfl hg_ hr_.S); clear HP; have HP := n0; clear n0; clear hr_ hg_; have yg2 : w3.cell? ⟨g, 2, none⟩ = some (.int .i64 1) := (blk_cell (HP.out.get 0 rfl) 2).trans rfl; have yg3 : w3.cell? ⟨g, 3, none⟩ = some (.int .i64 8) := (blk_cell (HP.out.get 0 rfl) 3).trans rfl)
  have n0 := Aside0.mk (HP.out.below (below_drew (Below.refl _ w3)))
  clear HP
  have HP := n0
  clear n0
  clear yg2 yg3
  refine start_ (n := 12) (S := fun w' => w'.cell? ⟨g, 2, none⟩ = some (.int .i64 1) ∧ w'.cell? ⟨g, 3, none⟩ = some (.int .i64 8)) (ds := []) #[false, false, false, false, false, false, false, false, false, false, false, false] (by kernel_rfl) rfl rfl ⟨(blk_cell (HP.out.get 0 rfl) 2).trans rfl, (blk_cell (HP.out.get 0 rfl) 3).trans rfl⟩ (fun hHeld => ?_)
  generalize w3.drew = w4 at HP hHeld ⊢
  refine pure_ (i := 0) (N := some 21) (v := ?_) (a' := ?_) #[true, false, false, false, false, false, false, false, false, false, false, false] rfl rfl (by kernel_rfl) (fun _ _ _ h => h) (Or.inl ⟨by rfl, ?_⟩) ?_ ?_
  rotate_left
  · intro w'
    go_simp
    with_reducible rfl
  rotate_left
  · simp only [Act.put, List.setIfInBounds_toArray, List.set_cons_zero, List.set_cons_succ, i64_w, i32_w]
    rfl
  refine pure_ (i := 1) (N := some 22) (v := ?_) (a' := ?_) #[true, true, false, false, false, false, false, false, false, false, false, false] rfl rfl (by kernel_rfl) (fun _ _ _ h => h) (Or.inl ⟨by rfl, ?_⟩) ?_ ?_
  rotate_left
  · intro w'
    go_simp
    with_reducible rfl
  rotate_left
  · simp only [Act.put, List.setIfInBounds_toArray, List.set_cons_zero, List.set_cons_succ, i64_w, i32_w]
    rfl
  refine pure_ (i := 2) (N := some 23) (v := ?_) (a' := ?_) #[true, true, true, false, false, false, false, false, false, false, false, false] rfl rfl (by kernel_rfl) (fun _ _ _ h => h) (Or.inl ⟨by rfl, ?_⟩) ?_ ?_
  rotate_left
  · intro w'
    go_simp
    with_reducible rfl
  rotate_left
  · simp only [Act.put, List.setIfInBounds_toArray, List.set_cons_zero, List.set_cons_succ, i64_w, i32_w]
    rfl
  refine pure_ (i := 3) (N := some 24) (v := ?_) (a' := ?_) #[true, true, true, true, false, false, false, false, false, false, false, false] rfl rfl (by kernel_rfl) (fun _ _ _ h => h) (Or.inl ⟨by rfl, ?_⟩) ?_ ?_
  rotate_left
  · intro w'
    go_simp
    with_reducible rfl
  rotate_left
  · simp only [Act.put, List.setIfInBounds_toArray, List.set_cons_zero, List.set_cons_succ, i64_w, i32_w]
    rfl
  refine pure_ (i := 5) (N := some 26) (v := ?_) (a' := ?_) #[true, true, true, true, false, true, false, false, false, false, false, false] rfl rfl (by kernel_rfl) (fun _ _ _ h => h) (Or.inl ⟨by rfl, ?_⟩) ?_ ?_
  rotate_left
  · intro w'
    go_simp
    with_reducible rfl
  rotate_left
  · simp only [Act.put, List.setIfInBounds_toArray, List.set_cons_zero, List.set_cons_succ, i64_w, i32_w]
    rfl
  refine pure_ (i := 6) (N := some 27) (v := ?_) (a' := ?_) #[true, true, true, true, false, true, true, false, false, false, false, false] rfl rfl (by kernel_rfl) (fun _ _ _ h => h) (Or.inl ⟨by rfl, ?_⟩) ?_ ?_
  rotate_left
  · intro w'
    go_simp
    with_reducible rfl
  rotate_left
  · simp only [Act.put, List.setIfInBounds_toArray, List.set_cons_zero, List.set_cons_succ, i64_w, i32_w]
    rfl
  refine pure_ (i := 7) (N := some 28) (v := ?_) (a' := ?_) #[true, true, true, true, false, true, true, true, false, false, false, false] rfl rfl (by kernel_rfl) (fun _ _ _ h => h) (Or.inl ⟨by rfl, ?_⟩) ?_ ?_
  rotate_left
  · intro w'
    go_simp
    with_reducible rfl
  rotate_left
  · simp only [Act.put, List.setIfInBounds_toArray, List.set_cons_zero, List.set_cons_succ, i64_w, i32_w]
    rfl
  refine take_ (i := 4) (N := some 25) (v := ?_) (a' := ?_) #[true, true, true, true, true, true, true, true, false, false, false, false] rfl rfl (by kernel_rfl) (fun _ _ _ h => h) (Or.inl ⟨by rfl, ?_⟩) hHeld ?_ ?_
  rotate_left
  · rintro w' ⟨s0, s1⟩
    go_simp
    with_reducible rfl
  rotate_left
  · simp only [Act.put, List.setIfInBounds_toArray, List.set_cons_zero, List.set_cons_succ, i64_w, i32_w]
    rfl
  refine take_ (i := 8) (N := some 29) (v := ?_) (a' := ?_) #[true, true, true, true, true, true, true, true, true, false, false, false] rfl rfl (by kernel_rfl) (fun _ _ _ h => h) (Or.inl ⟨by rfl, ?_⟩) hHeld ?_ ?_
  rotate_left
  · rintro w' ⟨s0, s1⟩
    go_simp
    with_reducible rfl
  rotate_left
  · simp only [Act.put, List.setIfInBounds_toArray, List.set_cons_zero, List.set_cons_succ, i64_w, i32_w]
    rfl
  refine one_ (i := 9) (N := none) #[true, true, true, true, true, true, true, true, true, true, false, false] rfl rfl (by kernel_rfl) (by decide) (fun K hK => ?_)
  have yo0 : w4.cell? ⟨br, 0, none⟩ = some (.slice none 0 0) := (blk_cell (HP.out.get 1 rfl) 0).trans rfl
  have zo0 := blk_frozen (HP.out.get 1 rfl) 0
  refine skip_ (w1 := ?_) (by rfl) rfl ?_ ?_
  rotate_left
  · go_simp
    rfl
  clear yo0 zo0
  have n0 := Aside0.mk (HP.out.put 1 rfl 0 (.slice none 0 0))
  clear HP
  have HP := n0
  clear n0
  generalize w4.setCell ⟨br, 0, none⟩ (.slice none 0 0) = w5 at HP ⊢
  refine hK.out _ _ ⟨(blk_cell (HP.out.get 0 rfl) 2).trans rfl, (blk_cell (HP.out.get 0 rfl) 3).trans rfl⟩ (fun hHeld => ?_)
  clear hK K
  refine pure_ (i := 10) (N := some 3) (v := ?_) (a' := ?_) #[true, true, true, true, true, true, true, true, true, true, true, false] rfl rfl (by kernel_rfl) (fun _ _ _ h => h) (Or.inl ⟨by rfl, ?_⟩) ?_ ?_
  rotate_left
  · intro w'
    go_simp
    with_reducible rfl
  rotate_left
  · simp only [Act.put, List.setIfInBounds_toArray, List.set_cons_zero, List.set_cons_succ, i64_w, i32_w]
    rfl
  refine pure_ (i := 11) (N := some 4) (v := ?_) (a' := ?_) #[true, true, true, true, true, true, true, true, true, true, true, true] rfl rfl (by kernel_rfl) (fun _ _ _ h => h) (Or.inl ⟨by rfl, ?_⟩) ?_ ?_
  rotate_left
  · intro w'
    go_simp
    with_reducible rfl
  rotate_left
  · simp only [Act.put, List.setIfInBounds_toArray, List.set_cons_zero, List.set_cons_succ, i64_w, i32_w]
    rfl
  refine done_ (by kernel_rfl) ?_
  go_wp2_with fail
  refine bodyPost_ret (results_ctt rfl _ _ br 36 #[.slice none 0 0] (0, 0) _ rfl (HP.out.get 1 rfl) Tryd.underlying36 rfl (by kernel_rfl)) rfl ⟨rfl, HP.out.B⟩
set_option maxHeartbeats 2000000 in
set_option maxRecDepth 100000 in
theorem awake_calls (w : World) : Calls Tryd.prog 5 #[] w fun e w' => e = .returned (.bool true) ∧ Below w.heap.size w w' := by
  have hu36 := Tryd.underlying36
  have HP := Aside0.mk (Bs.nil w)
  go_enter Tryd.func5, Tryd.ntmps5
  go_upto_region 2 with (first | (go_at_call 10; refine (read_m _).mono ?_; rintro e w1 ⟨rfl, hb⟩; have n0 := Aside0.mk (HP.out.below hb); clear HP; have HP := n0; clear n0; clear hb) | ((with_reducible refine gate_dst (N := 1) rfl ?_); refine box_event ?hg (N := 1) ?hd (cs := #[.slice none 0 0]) (t := 36) ?hr ?_; (case hd => rfl); (case hg => rfl); (case hr => first | (go_simp; done) | (go_simp; rfl)); intro bm hg_ w2 hbox hb; have n0 := Aside0.mk (HP.out.new hg_ hbox hb); clear HP; have HP := n0; clear n0; clear hg_ hbox hb; have ym0 : w2.cell? ⟨bm, 0, none⟩ = some (.slice none 0 0) := (blk_cell (HP.out.get 0 rfl) 0).trans rfl; have zm0 := blk_frozen (HP.out.get 0 rfl) 0))
  have n0 := Aside0.mk (HP.out.put 0 rfl 0 (.slice none 0 0))
  clear HP
  have HP := n0
  clear n0
  clear ym0 zm0
  generalize (w2.setCell ⟨bm, 0, none⟩ (.slice none 0 0)) = w3 at HP ⊢
  go_wp2_with fail
  go_ret
  exact ⟨rfl, HP.out.B⟩
end Go.Proofs.YtilmjckpphlniaaDoor.PRuleRound
