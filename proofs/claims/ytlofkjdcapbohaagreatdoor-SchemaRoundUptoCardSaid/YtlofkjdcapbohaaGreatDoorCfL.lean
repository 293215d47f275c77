/- For the law SchemaRound: item and lacking, walked. No condition. -/
import Derived.Test.YtlofkjdcapbohaaGreatDoorCfK
namespace Go.Proofs.YtlofkjdcapbohaaGreatDoor.PConfKeeps
open Go.RowKit Go.Proofs.YtlofkjdcapbohaaGreatDoorW.PrintWords Go.Proofs.YtlofkjdcapbohaaGreatDoorW.PrintLast Go.Proofs.YtlofkjdcapbohaaGreatDoorW.PrintMore
set_option linter.unusedVariables false
set_option linter.unusedSimpArgs false

set_option maxHeartbeats 2000000 in
set_option maxRecDepth 100000 in
theorem item_calls (v : S25) (A4 : Option Addr) (c4 : Nat) (A5 : Option Addr) (c5 : Nat) (key : ByteArray) (r : S25 × Bool) (w : World) (ok0 : Nat → Prop) (hv : RdF w ok0 v A4 c4 A5 c5) (h : cItem v key = some r) :
  Calls Tryz.prog 36 #[.agg #[.int .i64 v.f0, .bool v.f1, .int .i64 v.f2, .string v.f3, .slice A4 v.f4.length c4, .slice A5 v.f5.length c5], .string key] w fun e w' => ∃ E4 e4 E5 e5, e = .returned (.tuple #[.agg #[.int .i64 r.1.f0, .bool r.1.f1, .int .i64 r.1.f2, .string r.1.f3, .slice E4 r.1.f4.length e4, .slice E5 r.1.f5.length e5], .bool r.2]) ∧ RdF w' ok0 r.1 E4 e4 E5 e5 ∧ Below w.heap.size w w' := by
 have hu25 := Tryz.underlying25
 have HV := Aside0.mk hv.bound
 have HP := Aside0.mk (Bs.nil w)
 unfold cItem at h
 obtain ⟨⟨i, b⟩, hf, h⟩ := Option.bind_eq_some_iff.1 h
 have HFD := Aside0.mk hf
 clear hv hf
 dsimp only at h
 go_enter Tryz.func36, Tryz.ntmps36
 go_upto_region 1 with (first | ((with_reducible refine gate_dst (N := 2) rfl ?_); refine box_event ?hg (N := 2) ?hd (cs := #[.int .i64 v.f0, .bool v.f1, .int .i64 v.f2, .string v.f3, .slice A4 v.f4.length c4, .slice A5 v.f5.length c5]) (t := 25) ?hr ?_; (case hd => rfl); (case hg => rfl); (case hr => first | (go_simp; done) | (go_simp; rfl)); intro bv hg_ W1 hbox hb; have n0 := Aside0.mk (HP.out.new hg_ hbox hb); clear HP; have HP := n0; clear n0; clear hg_ hbox hb) | ((with_reducible refine gate_dst (N := 4) rfl ?_); refine box_event ?hg (N := 4) ?hd (cs := #[.int .i64 0, .bool false, .int .i64 0, .string ⟨#[]⟩, .slice none 0 0, .slice none 0 0]) (t := 25) ?hr ?_; (case hd => rfl); (case hg => rfl); (case hr => first | (go_simp; done) | (go_simp; rfl)); intro br hg_ W2 hbox hb; have n0 := Aside0.mk (HP.out.new hg_ hbox hb); clear HP; have HP := n0; clear n0; clear hg_ hbox hb))
 have yv0 : W2.cell? ⟨bv, 0, none⟩ = some (.int .i64 v.f0) := HP.out.cl 1 0 rfl rfl
 have yv1 : W2.cell? ⟨bv, 1, none⟩ = some (.bool v.f1) := HP.out.cl 1 1 rfl rfl
 have yv2 : W2.cell? ⟨bv, 2, none⟩ = some (.int .i64 v.f2) := HP.out.cl 1 2 rfl rfl
 have yv3 : W2.cell? ⟨bv, 3, none⟩ = some (.string v.f3) := HP.out.cl 1 3 rfl rfl
 have yv4 : W2.cell? ⟨bv, 4, none⟩ = some (.slice A4 v.f4.length c4) := HP.out.cl 1 4 rfl rfl
 have yv5 : W2.cell? ⟨bv, 5, none⟩ = some (.slice A5 v.f5.length c5) := HP.out.cl 1 5 rfl rfl
 cases b with
 | false =>
  rw [if_neg (fun h_ => by cases h_)] at h
  injection h with h
  subst h
  go_wp2_with (go_at_call 55; refine (conf_find.calls v.f0 v.f1 v.f2 v.f3 A4 c4 v.f4 A5 c5 v.f5 key i _ _ (HV.out.below HP.out.B).now.1 (HV.out.below HP.out.B).now.2.1 (HV.out.below HP.out.B).now.2.2.1 (HV.out.below HP.out.B).now.2.2.2 HFD.out).mono ?_; rintro e w5 ⟨rfl, hb⟩; have n0 := Aside0.mk (HP.out.below hb); clear HP; have HP := n0; clear n0; clear hb; have yr0 : w5.cell? ⟨br, 0, none⟩ = some (.int .i64 0) := HP.out.cl 0 0 rfl rfl; have yr1 : w5.cell? ⟨br, 1, none⟩ = some (.bool false) := HP.out.cl 0 1 rfl rfl; have yr2 : w5.cell? ⟨br, 2, none⟩ = some (.int .i64 0) := HP.out.cl 0 2 rfl rfl; have yr3 : w5.cell? ⟨br, 3, none⟩ = some (.string ⟨#[]⟩) := HP.out.cl 0 3 rfl rfl; have yr4 : w5.cell? ⟨br, 4, none⟩ = some (.slice none 0 0) := HP.out.cl 0 4 rfl rfl; have yr5 : w5.cell? ⟨br, 5, none⟩ = some (.slice none 0 0) := HP.out.cl 0 5 rfl rfl; have zr0 := HP.out.fz 0 0 rfl; have zr1 := HP.out.fz 0 1 rfl; have zr2 := HP.out.fz 0 2 rfl; have zr3 := HP.out.fz 0 3 rfl; have zr4 := HP.out.fz 0 4 rfl; have zr5 := HP.out.fz 0 5 rfl)
  refine bodyPost_ret (results_ct rfl _ _ br 25 #[.int .i64 0, .bool false, .int .i64 0, .string ⟨#[]⟩, .slice none 0 0, .slice none 0 0] (0, 0) _ rfl (put6 (HP.out.get 0 rfl) _ _ _ _ _ _) Tryz.underlying25 rfl (by kernel_rfl)) rfl ?_
  exact ⟨none, 0, none, 0, rfl, RdF.nil _ _ _ _ _ _, put6_below HP.out.B (HP.out.low 0 rfl) _ _ _ _ _ _⟩
 | true =>
  rw [if_pos rfl] at h
  by_cases c1 : 0 ≤ i ∧ i < (v.f4.length : Int)
  case neg => rw [if_neg c1] at h; cases h
  rw [if_pos c1] at h
  injection h with h
  subst h
  obtain ⟨p0, p1⟩ := c1
  go_upto_region 4 with (go_at_call 55; refine (conf_find.calls v.f0 v.f1 v.f2 v.f3 A4 c4 v.f4 A5 c5 v.f5 key i _ _ (HV.out.below HP.out.B).now.1 (HV.out.below HP.out.B).now.2.1 (HV.out.below HP.out.B).now.2.2.1 (HV.out.below HP.out.B).now.2.2.2 HFD.out).mono ?_; rintro e w5 ⟨rfl, hb⟩; have n0 := Aside0.mk (HP.out.below hb); clear HP; have HP := n0; clear n0; clear hb; have yu4 : w5.cell? ⟨bv, 4, none⟩ = some (.slice A4 v.f4.length c4) := HP.out.cl 1 4 rfl rfl; have yr0 : w5.cell? ⟨br, 0, none⟩ = some (.int .i64 0) := HP.out.cl 0 0 rfl rfl; have yr1 : w5.cell? ⟨br, 1, none⟩ = some (.bool false) := HP.out.cl 0 1 rfl rfl; have yr2 : w5.cell? ⟨br, 2, none⟩ = some (.int .i64 0) := HP.out.cl 0 2 rfl rfl; have yr3 : w5.cell? ⟨br, 3, none⟩ = some (.string ⟨#[]⟩) := HP.out.cl 0 3 rfl rfl; have yr4 : w5.cell? ⟨br, 4, none⟩ = some (.slice none 0 0) := HP.out.cl 0 4 rfl rfl; have yr5 : w5.cell? ⟨br, 5, none⟩ = some (.slice none 0 0) := HP.out.cl 0 5 rfl rfl; have zr0 := HP.out.fz 0 0 rfl; have zr1 := HP.out.fz 0 1 rfl; have zr2 := HP.out.fz 0 2 rfl; have zr3 := HP.out.fz 0 3 rfl; have zr4 := HP.out.fz 0 4 rfl; have zr5 := HP.out.fz 0 5 rfl)
  clear yv0 yv1 yv2 yv3 yv4 yv5
  obtain ⟨ad, F4, f4, F5, f5, e_, x0, x1, x2, x3, x4, x5, hrd⟩ := at_F25 HV.out.1 i p0 p1
  cases e_
  have RD := Aside0.mk hrd
  clear hrd
  obtain ⟨x, hx⟩ : ∃ x, x = rd_T25 v.f4 i := ⟨_, rfl⟩
  rw [← hx] at x0 x1 x2 x3 x4 x5 RD
  have HXE := Aside0.mk hx
  clear hx
  have q1 : decide (0 ≤ i) = true := decide_eq_true p0
  have q2 : decide (i < (v.f4.length : Int)) = true := decide_eq_true p1
  replace p0 := eq_true p0
  replace p1 := eq_true p1
  replace x0 := (HP.out.B.cell (World.block_lt_of_cell? w _ x0)).trans x0
  replace x1 := (HP.out.B.cell (World.block_lt_of_cell? w _ x1)).trans x1
  replace x2 := (HP.out.B.cell (World.block_lt_of_cell? w _ x2)).trans x2
  replace x3 := (HP.out.B.cell (World.block_lt_of_cell? w _ x3)).trans x3
  replace x4 := (HP.out.B.cell (World.block_lt_of_cell? w _ x4)).trans x4
  replace x5 := (HP.out.B.cell (World.block_lt_of_cell? w _ x5)).trans x5
  go_wp2_with fail
  refine bodyPost_ret (results_ct rfl _ _ br 25 #[.int .i64 x.f0, .bool x.f1, .int .i64 x.f2, .string x.f3, .slice F4 x.f4.length f4, .slice F5 x.f5.length f5] (0, 0) _ rfl (put6 (HP.out.get 0 rfl) _ _ _ _ _ _) Tryz.underlying25 rfl (by kernel_rfl)) rfl ?_
  skip
  have hF1 := ((RD.out.below HP.out.B).six (g := br) (fun k hk => by have := hk.2; have := HP.out.low 0 rfl; omega) (.int .i64 x.f0) (.bool x.f1) (.int .i64 x.f2) (.string x.f3) (.slice F4 x.f4.length f4) (.slice F5 x.f5.length f5)).mono (fun k hk => hk.1)
  have hF2 := put6_below HP.out.B (HP.out.low 0 rfl) (.int .i64 x.f0) (.bool x.f1) (.int .i64 x.f2) (.string x.f3) (.slice F4 x.f4.length f4) (.slice F5 x.f5.length f5)
  obtain rfl := HXE.out
  exact ⟨F4, f4, F5, f5, rfl, hF1, hF2⟩
def cLack (v : S25) : Option Bool := (cItem v ⟨#[114, 111, 117, 116, 101]⟩).bind fun a => (cItem v ⟨#[107, 105, 110, 100]⟩).bind fun b => (cItem v ⟨#[109, 105, 110]⟩).bind fun c => (cItem v ⟨#[109, 97, 120]⟩).bind fun d => some ((!a.2 || !b.2) || (c.2 != d.2))
set_option maxHeartbeats 2000000 in
set_option maxRecDepth 100000 in
theorem lacking_calls (v : S25) (A4 : Option Addr) (c4 : Nat) (A5 : Option Addr) (c5 : Nat) (r : Bool) (w : World) (hv : Rd w v A4 c4 A5 c5) (h : cLack v = some r) :
  Calls Tryz.prog 37 #[.agg #[.int .i64 v.f0, .bool v.f1, .int .i64 v.f2, .string v.f3, .slice A4 v.f4.length c4, .slice A5 v.f5.length c5]] w fun e w' => e = .returned (.bool r) ∧ Below w.heap.size w w' := by
 have hu25 := Tryz.underlying25
 have HV := Aside0.mk hv.F
 have HP := Aside0.mk (Bs.nil w)
 unfold cLack at h
 obtain ⟨⟨a0, b0⟩, h0, h⟩ := Option.bind_eq_some_iff.1 h
 have H0 := Aside0.mk h0
 clear h0
 obtain ⟨⟨a1, b1⟩, h1, h⟩ := Option.bind_eq_some_iff.1 h
 have H1 := Aside0.mk h1
 clear h1
 obtain ⟨⟨a2, b2⟩, h2, h⟩ := Option.bind_eq_some_iff.1 h
 have H2 := Aside0.mk h2
 clear h2
 obtain ⟨⟨a3, b3⟩, h3, h⟩ := Option.bind_eq_some_iff.1 h
 have H3 := Aside0.mk h3
 clear h3
 injection h with h
 subst h
 clear hv
 dsimp only
 go_enter Tryz.func37, Tryz.ntmps37
 go_upto_region 1 with (((with_reducible refine gate_dst (N := 1) rfl ?_); refine box_event ?hg (N := 1) ?hd (cs := #[.int .i64 v.f0, .bool v.f1, .int .i64 v.f2, .string v.f3, .slice A4 v.f4.length c4, .slice A5 v.f5.length c5]) (t := 25) ?hr ?_; (case hd => rfl); (case hg => rfl); (case hr => first | (go_simp; done) | (go_simp; rfl)); intro bv hg_ W0 hbox hb; have n0 := Aside0.mk (HP.out.new hg_ hbox hb); clear HP; have HP := n0; clear n0; clear hg_ hbox hb))
 have yv0 : W0.cell? ⟨bv, 0, none⟩ = some (.int .i64 v.f0) := HP.out.cl 0 0 rfl rfl
 have yv1 : W0.cell? ⟨bv, 1, none⟩ = some (.bool v.f1) := HP.out.cl 0 1 rfl rfl
 have yv2 : W0.cell? ⟨bv, 2, none⟩ = some (.int .i64 v.f2) := HP.out.cl 0 2 rfl rfl
 have yv3 : W0.cell? ⟨bv, 3, none⟩ = some (.string v.f3) := HP.out.cl 0 3 rfl rfl
 have yv4 : W0.cell? ⟨bv, 4, none⟩ = some (.slice A4 v.f4.length c4) := HP.out.cl 0 4 rfl rfl
 have yv5 : W0.cell? ⟨bv, 5, none⟩ = some (.slice A5 v.f5.length c5) := HP.out.cl 0 5 rfl rfl
 go_upto_region 2 with (first | (go_at_call 36; refine (item_calls v A4 c4 A5 c5 ⟨#[114, 111, 117, 116, 101]⟩ (a0, b0) _ (fun k => k < w.heap.size) (HV.out.below HP.out.B) H0.out).mono ?_; rintro e u0 ⟨E4_0, e4_0, E5_0, e5_0, rfl, hr, hb⟩; have n0 := Aside0.mk (HP.out.below hb); clear HP; have HP := n0; clear n0; clear hb hr) | ((with_reducible refine gate_dst (N := 3) rfl ?_); refine box_event ?hg (N := 3) ?hd (cs := #[.int .i64 0, .bool false, .int .i64 0, .string ⟨#[]⟩, .slice none 0 0, .slice none 0 0]) (t := 25) ?hr ?_; (case hd => rfl); (case hg => rfl); (case hr => first | (go_simp; done) | (go_simp; rfl)); intro g0 hg_ t0 hbox hb; have n0 := Aside0.mk (HP.out.new hg_ hbox hb); clear HP; have HP := n0; clear n0; clear hg_ hbox hb; have yz0 : t0.cell? ⟨g0, 0, none⟩ = some (.int .i64 0) := HP.out.cl 0 0 rfl rfl; have yz1 : t0.cell? ⟨g0, 1, none⟩ = some (.bool false) := HP.out.cl 0 1 rfl rfl; have yz2 : t0.cell? ⟨g0, 2, none⟩ = some (.int .i64 0) := HP.out.cl 0 2 rfl rfl; have yz3 : t0.cell? ⟨g0, 3, none⟩ = some (.string ⟨#[]⟩) := HP.out.cl 0 3 rfl rfl; have yz4 : t0.cell? ⟨g0, 4, none⟩ = some (.slice none 0 0) := HP.out.cl 0 4 rfl rfl; have yz5 : t0.cell? ⟨g0, 5, none⟩ = some (.slice none 0 0) := HP.out.cl 0 5 rfl rfl; have zz0 := HP.out.fz 0 0 rfl; have zz1 := HP.out.fz 0 1 rfl; have zz2 := HP.out.fz 0 2 rfl; have zz3 := HP.out.fz 0 3 rfl; have zz4 := HP.out.fz 0 4 rfl; have zz5 := HP.out.fz 0 5 rfl))
 have n0 := Aside0.mk (HP.out.six 0 rfl (.int .i64 a0.f0) (.bool a0.f1) (.int .i64 a0.f2) (.string a0.f3) (.slice E4_0 a0.f4.length e4_0) (.slice E5_0 a0.f5.length e5_0))
 clear HP
 have HP := n0
 clear n0
 clear yz0 zz0 yv0 yz1 zz1 yv1 yz2 zz2 yv2 yz3 zz3 yv3 yz4 zz4 yv4 yz5 zz5 yv5
 generalize ((((((t0.setCell ⟨g0, 0, none⟩ (.int .i64 a0.f0)).setCell ⟨g0, 1, none⟩ (.bool a0.f1)).setCell ⟨g0, 2, none⟩ (.int .i64 a0.f2)).setCell ⟨g0, 3, none⟩ (.string a0.f3)).setCell ⟨g0, 4, none⟩ (.slice E4_0 a0.f4.length e4_0)).setCell ⟨g0, 5, none⟩ (.slice E5_0 a0.f5.length e5_0)) = v0 at HP ⊢
 have yv0 : v0.cell? ⟨bv, 0, none⟩ = some (.int .i64 v.f0) := HP.out.cl 1 0 rfl rfl
 have yv1 : v0.cell? ⟨bv, 1, none⟩ = some (.bool v.f1) := HP.out.cl 1 1 rfl rfl
 have yv2 : v0.cell? ⟨bv, 2, none⟩ = some (.int .i64 v.f2) := HP.out.cl 1 2 rfl rfl
 have yv3 : v0.cell? ⟨bv, 3, none⟩ = some (.string v.f3) := HP.out.cl 1 3 rfl rfl
 have yv4 : v0.cell? ⟨bv, 4, none⟩ = some (.slice A4 v.f4.length c4) := HP.out.cl 1 4 rfl rfl
 have yv5 : v0.cell? ⟨bv, 5, none⟩ = some (.slice A5 v.f5.length c5) := HP.out.cl 1 5 rfl rfl
 go_upto_region 3 with (first | (go_at_call 36; refine (item_calls v A4 c4 A5 c5 ⟨#[107, 105, 110, 100]⟩ (a1, b1) _ (fun k => k < w.heap.size) (HV.out.below HP.out.B) H1.out).mono ?_; rintro e u1 ⟨E4_1, e4_1, E5_1, e5_1, rfl, hr, hb⟩; have n0 := Aside0.mk (HP.out.below hb); clear HP; have HP := n0; clear n0; clear hb hr) | ((with_reducible refine gate_dst (N := 5) rfl ?_); refine box_event ?hg (N := 5) ?hd (cs := #[.int .i64 0, .bool false, .int .i64 0, .string ⟨#[]⟩, .slice none 0 0, .slice none 0 0]) (t := 25) ?hr ?_; (case hd => rfl); (case hg => rfl); (case hr => first | (go_simp; done) | (go_simp; rfl)); intro g1 hg_ t1 hbox hb; have n0 := Aside0.mk (HP.out.new hg_ hbox hb); clear HP; have HP := n0; clear n0; clear hg_ hbox hb; have yz0 : t1.cell? ⟨g1, 0, none⟩ = some (.int .i64 0) := HP.out.cl 0 0 rfl rfl; have yz1 : t1.cell? ⟨g1, 1, none⟩ = some (.bool false) := HP.out.cl 0 1 rfl rfl; have yz2 : t1.cell? ⟨g1, 2, none⟩ = some (.int .i64 0) := HP.out.cl 0 2 rfl rfl; have yz3 : t1.cell? ⟨g1, 3, none⟩ = some (.string ⟨#[]⟩) := HP.out.cl 0 3 rfl rfl; have yz4 : t1.cell? ⟨g1, 4, none⟩ = some (.slice none 0 0) := HP.out.cl 0 4 rfl rfl; have yz5 : t1.cell? ⟨g1, 5, none⟩ = some (.slice none 0 0) := HP.out.cl 0 5 rfl rfl; have zz0 := HP.out.fz 0 0 rfl; have zz1 := HP.out.fz 0 1 rfl; have zz2 := HP.out.fz 0 2 rfl; have zz3 := HP.out.fz 0 3 rfl; have zz4 := HP.out.fz 0 4 rfl; have zz5 := HP.out.fz 0 5 rfl))
 have n0 := Aside0.mk (HP.out.six 0 rfl (.int .i64 a1.f0) (.bool a1.f1) (.int .i64 a1.f2) (.string a1.f3) (.slice E4_1 a1.f4.length e4_1) (.slice E5_1 a1.f5.length e5_1))
 clear HP
 have HP := n0
 clear n0
 clear yz0 zz0 yv0 yz1 zz1 yv1 yz2 zz2 yv2 yz3 zz3 yv3 yz4 zz4 yv4 yz5 zz5 yv5
 generalize ((((((t1.setCell ⟨g1, 0, none⟩ (.int .i64 a1.f0)).setCell ⟨g1, 1, none⟩ (.bool a1.f1)).setCell ⟨g1, 2, none⟩ (.int .i64 a1.f2)).setCell ⟨g1, 3, none⟩ (.string a1.f3)).setCell ⟨g1, 4, none⟩ (.slice E4_1 a1.f4.length e4_1)).setCell ⟨g1, 5, none⟩ (.slice E5_1 a1.f5.length e5_1)) = v1 at HP ⊢
 have yv0 : v1.cell? ⟨bv, 0, none⟩ = some (.int .i64 v.f0) := HP.out.cl 2 0 rfl rfl
 have yv1 : v1.cell? ⟨bv, 1, none⟩ = some (.bool v.f1) := HP.out.cl 2 1 rfl rfl
 have yv2 : v1.cell? ⟨bv, 2, none⟩ = some (.int .i64 v.f2) := HP.out.cl 2 2 rfl rfl
 have yv3 : v1.cell? ⟨bv, 3, none⟩ = some (.string v.f3) := HP.out.cl 2 3 rfl rfl
 have yv4 : v1.cell? ⟨bv, 4, none⟩ = some (.slice A4 v.f4.length c4) := HP.out.cl 2 4 rfl rfl
 have yv5 : v1.cell? ⟨bv, 5, none⟩ = some (.slice A5 v.f5.length c5) := HP.out.cl 2 5 rfl rfl
 go_upto_region 4 with (first | (go_at_call 36; refine (item_calls v A4 c4 A5 c5 ⟨#[109, 105, 110]⟩ (a2, b2) _ (fun k => k < w.heap.size) (HV.out.below HP.out.B) H2.out).mono ?_; rintro e u2 ⟨E4_2, e4_2, E5_2, e5_2, rfl, hr, hb⟩; have n0 := Aside0.mk (HP.out.below hb); clear HP; have HP := n0; clear n0; clear hb hr) | ((with_reducible refine gate_dst (N := 7) rfl ?_); refine box_event ?hg (N := 7) ?hd (cs := #[.int .i64 0, .bool false, .int .i64 0, .string ⟨#[]⟩, .slice none 0 0, .slice none 0 0]) (t := 25) ?hr ?_; (case hd => rfl); (case hg => rfl); (case hr => first | (go_simp; done) | (go_simp; rfl)); intro g2 hg_ t2 hbox hb; have n0 := Aside0.mk (HP.out.new hg_ hbox hb); clear HP; have HP := n0; clear n0; clear hg_ hbox hb; have yz0 : t2.cell? ⟨g2, 0, none⟩ = some (.int .i64 0) := HP.out.cl 0 0 rfl rfl; have yz1 : t2.cell? ⟨g2, 1, none⟩ = some (.bool false) := HP.out.cl 0 1 rfl rfl; have yz2 : t2.cell? ⟨g2, 2, none⟩ = some (.int .i64 0) := HP.out.cl 0 2 rfl rfl; have yz3 : t2.cell? ⟨g2, 3, none⟩ = some (.string ⟨#[]⟩) := HP.out.cl 0 3 rfl rfl; have yz4 : t2.cell? ⟨g2, 4, none⟩ = some (.slice none 0 0) := HP.out.cl 0 4 rfl rfl; have yz5 : t2.cell? ⟨g2, 5, none⟩ = some (.slice none 0 0) := HP.out.cl 0 5 rfl rfl; have zz0 := HP.out.fz 0 0 rfl; have zz1 := HP.out.fz 0 1 rfl; have zz2 := HP.out.fz 0 2 rfl; have zz3 := HP.out.fz 0 3 rfl; have zz4 := HP.out.fz 0 4 rfl; have zz5 := HP.out.fz 0 5 rfl))
 have n0 := Aside0.mk (HP.out.six 0 rfl (.int .i64 a2.f0) (.bool a2.f1) (.int .i64 a2.f2) (.string a2.f3) (.slice E4_2 a2.f4.length e4_2) (.slice E5_2 a2.f5.length e5_2))
 clear HP
 have HP := n0
 clear n0
 clear yz0 zz0 yv0 yz1 zz1 yv1 yz2 zz2 yv2 yz3 zz3 yv3 yz4 zz4 yv4 yz5 zz5 yv5
 generalize ((((((t2.setCell ⟨g2, 0, none⟩ (.int .i64 a2.f0)).setCell ⟨g2, 1, none⟩ (.bool a2.f1)).setCell ⟨g2, 2, none⟩ (.int .i64 a2.f2)).setCell ⟨g2, 3, none⟩ (.string a2.f3)).setCell ⟨g2, 4, none⟩ (.slice E4_2 a2.f4.length e4_2)).setCell ⟨g2, 5, none⟩ (.slice E5_2 a2.f5.length e5_2)) = v2 at HP ⊢
 have yv0 : v2.cell? ⟨bv, 0, none⟩ = some (.int .i64 v.f0) := HP.out.cl 3 0 rfl rfl
 have yv1 : v2.cell? ⟨bv, 1, none⟩ = some (.bool v.f1) := HP.out.cl 3 1 rfl rfl
 have yv2 : v2.cell? ⟨bv, 2, none⟩ = some (.int .i64 v.f2) := HP.out.cl 3 2 rfl rfl
 have yv3 : v2.cell? ⟨bv, 3, none⟩ = some (.string v.f3) := HP.out.cl 3 3 rfl rfl
 have yv4 : v2.cell? ⟨bv, 4, none⟩ = some (.slice A4 v.f4.length c4) := HP.out.cl 3 4 rfl rfl
 have yv5 : v2.cell? ⟨bv, 5, none⟩ = some (.slice A5 v.f5.length c5) := HP.out.cl 3 5 rfl rfl
 go_upto_region 5 with (first | (go_at_call 36; refine (item_calls v A4 c4 A5 c5 ⟨#[109, 97, 120]⟩ (a3, b3) _ (fun k => k < w.heap.size) (HV.out.below HP.out.B) H3.out).mono ?_; rintro e u3 ⟨E4_3, e4_3, E5_3, e5_3, rfl, hr, hb⟩; have n0 := Aside0.mk (HP.out.below hb); clear HP; have HP := n0; clear n0; clear hb hr) | ((with_reducible refine gate_dst (N := 9) rfl ?_); refine box_event ?hg (N := 9) ?hd (cs := #[.int .i64 0, .bool false, .int .i64 0, .string ⟨#[]⟩, .slice none 0 0, .slice none 0 0]) (t := 25) ?hr ?_; (case hd => rfl); (case hg => rfl); (case hr => first | (go_simp; done) | (go_simp; rfl)); intro g3 hg_ t3 hbox hb; have n0 := Aside0.mk (HP.out.new hg_ hbox hb); clear HP; have HP := n0; clear n0; clear hg_ hbox hb; have yz0 : t3.cell? ⟨g3, 0, none⟩ = some (.int .i64 0) := HP.out.cl 0 0 rfl rfl; have yz1 : t3.cell? ⟨g3, 1, none⟩ = some (.bool false) := HP.out.cl 0 1 rfl rfl; have yz2 : t3.cell? ⟨g3, 2, none⟩ = some (.int .i64 0) := HP.out.cl 0 2 rfl rfl; have yz3 : t3.cell? ⟨g3, 3, none⟩ = some (.string ⟨#[]⟩) := HP.out.cl 0 3 rfl rfl; have yz4 : t3.cell? ⟨g3, 4, none⟩ = some (.slice none 0 0) := HP.out.cl 0 4 rfl rfl; have yz5 : t3.cell? ⟨g3, 5, none⟩ = some (.slice none 0 0) := HP.out.cl 0 5 rfl rfl; have zz0 := HP.out.fz 0 0 rfl; have zz1 := HP.out.fz 0 1 rfl; have zz2 := HP.out.fz 0 2 rfl; have zz3 := HP.out.fz 0 3 rfl; have zz4 := HP.out.fz 0 4 rfl; have zz5 := HP.out.fz 0 5 rfl))
 have n0 := Aside0.mk (HP.out.six 0 rfl (.int .i64 a3.f0) (.bool a3.f1) (.int .i64 a3.f2) (.string a3.f3) (.slice E4_3 a3.f4.length e4_3) (.slice E5_3 a3.f5.length e5_3))
 clear HP
 have HP := n0
 clear n0
 clear yz0 zz0 yv0 yz1 zz1 yv1 yz2 zz2 yv2 yz3 zz3 yv3 yz4 zz4 yv4 yz5 zz5 yv5
 generalize ((((((t3.setCell ⟨g3, 0, none⟩ (.int .i64 a3.f0)).setCell ⟨g3, 1, none⟩ (.bool a3.f1)).setCell ⟨g3, 2, none⟩ (.int .i64 a3.f2)).setCell ⟨g3, 3, none⟩ (.string a3.f3)).setCell ⟨g3, 4, none⟩ (.slice E4_3 a3.f4.length e4_3)).setCell ⟨g3, 5, none⟩ (.slice E5_3 a3.f5.length e5_3)) = v3 at HP ⊢
 cases b0 <;> cases b1 <;> cases b2 <;> cases b3 <;> (go_wp2_with fail; go_ret; exact ⟨rfl, HP.out.B⟩)
end Go.Proofs.YtlofkjdcapbohaaGreatDoor.PConfKeeps
