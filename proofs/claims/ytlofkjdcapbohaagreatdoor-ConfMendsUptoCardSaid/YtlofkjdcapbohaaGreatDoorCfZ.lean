/- For the law ConfMends: Diff, walked. No condition. -/
import Derived.Test.YtlofkjdcapbohaaGreatDoorCfY
namespace Go.Proofs.YtlofkjdcapbohaaGreatDoor.PConfKeeps
open Go.RowKit Go.Proofs.YtlofkjdcapbohaaGreatDoorW.PrintWords Go.Proofs.YtlofkjdcapbohaaGreatDoorW.PrintLast Go.Proofs.YtlofkjdcapbohaaGreatDoorW.PrintMore
set_option linter.unusedVariables false
set_option linter.unusedSimpArgs false

def cDiff (k n : Nat) (a b : S25) : Option (List S69 × Int) := (Fck k a).bind fun e => if e = 0 then (Fck k b).bind fun e => if e = 0 then (cdiff k n a b ⟨#[]⟩).bind fun p => if p.1.length ≤ 1000000 ∧ p.2.length ≤ 1000000 then some (p.1 ++ p.2, 0) else none else some ([], e) else some ([], e)
set_option maxHeartbeats 4000000 in
set_option maxRecDepth 100000 in
theorem Diff_calls (k n : Nat) (a : S25) (A4 : Option Addr) (c4 : Nat) (A5 : Option Addr) (c5 : Nat) (b : S25) (B4 : Option Addr) (d4 : Nat) (B5 : Option Addr) (d5 : Nat) (r : List S69 × Int) (w : World) (ha : Rd w a A4 c4 A5 c5) (hb : Rd w b B4 d4 B5 d5) (h : cDiff k n a b = some r) :
  Calls Tryz.prog 12 #[.agg #[.int .i64 a.f0, .bool a.f1, .int .i64 a.f2, .string a.f3, .slice A4 a.f4.length c4, .slice A5 a.f5.length c5], .agg #[.int .i64 b.f0, .bool b.f1, .int .i64 b.f2, .string b.f3, .slice B4 b.f4.length d4, .slice B5 b.f5.length d5]] w fun e w' => ∃ A c, e = .returned (.tuple #[.slice A r.1.length c, .int .i64 r.2]) ∧ Kd.C k69 w' A r.1.length r.1 ∧ r.1.length ≤ c ∧ Below w.heap.size w w' := by
 have hu25 := Tryz.underlying25
 have hu66 := Tryz.underlying66
 have HA := Aside0.mk ha.F
 have HBV := Aside0.mk hb.F
 have HP := Aside0.mk (Bs.nil w)
 unfold cDiff at h
 obtain ⟨ea, hca, h1⟩ := Option.bind_eq_some_iff.1 h
 have HCA := Aside0.mk hca
 have H := Aside0.mk h1
 clear ha hb h hca h1
 go_enter Tryz.func12, Tryz.ntmps12
 go_upto_region 1 with (first | ((with_reducible refine gate_dst (N := 2) rfl ?_); refine box_event ?hg (N := 2) ?hd (cs := #[.int .i64 a.f0, .bool a.f1, .int .i64 a.f2, .string a.f3, .slice A4 a.f4.length c4, .slice A5 a.f5.length c5]) (t := 25) ?hr ?_; (case hd => rfl); (case hg => rfl); (case hr => first | (go_simp; done) | (go_simp; rfl)); intro ba hg_ W1 hbox hb; have n0 := Aside0.mk (HP.out.new hg_ hbox hb); clear HP; have HP := n0; clear n0; clear hg_ hbox hb) | ((with_reducible refine gate_dst (N := 3) rfl ?_); refine box_event ?hg (N := 3) ?hd (cs := #[.int .i64 b.f0, .bool b.f1, .int .i64 b.f2, .string b.f3, .slice B4 b.f4.length d4, .slice B5 b.f5.length d5]) (t := 25) ?hr ?_; (case hd => rfl); (case hg => rfl); (case hr => first | (go_simp; done) | (go_simp; rfl)); intro bb hg_ W2 hbox hb; have n0 := Aside0.mk (HP.out.new hg_ hbox hb); clear HP; have HP := n0; clear n0; clear hg_ hbox hb))
 have ya0 : W2.cell? ⟨ba, 0, none⟩ = some (.int .i64 a.f0) := HP.out.cl 1 0 rfl rfl
 have ya1 : W2.cell? ⟨ba, 1, none⟩ = some (.bool a.f1) := HP.out.cl 1 1 rfl rfl
 have ya2 : W2.cell? ⟨ba, 2, none⟩ = some (.int .i64 a.f2) := HP.out.cl 1 2 rfl rfl
 have ya3 : W2.cell? ⟨ba, 3, none⟩ = some (.string a.f3) := HP.out.cl 1 3 rfl rfl
 have ya4 : W2.cell? ⟨ba, 4, none⟩ = some (.slice A4 a.f4.length c4) := HP.out.cl 1 4 rfl rfl
 have ya5 : W2.cell? ⟨ba, 5, none⟩ = some (.slice A5 a.f5.length c5) := HP.out.cl 1 5 rfl rfl
 have yb0 : W2.cell? ⟨bb, 0, none⟩ = some (.int .i64 b.f0) := HP.out.cl 0 0 rfl rfl
 have yb1 : W2.cell? ⟨bb, 1, none⟩ = some (.bool b.f1) := HP.out.cl 0 1 rfl rfl
 have yb2 : W2.cell? ⟨bb, 2, none⟩ = some (.int .i64 b.f2) := HP.out.cl 0 2 rfl rfl
 have yb3 : W2.cell? ⟨bb, 3, none⟩ = some (.string b.f3) := HP.out.cl 0 3 rfl rfl
 have yb4 : W2.cell? ⟨bb, 4, none⟩ = some (.slice B4 b.f4.length d4) := HP.out.cl 0 4 rfl rfl
 have yb5 : W2.cell? ⟨bb, 5, none⟩ = some (.slice B5 b.f5.length d5) := HP.out.cl 0 5 rfl rfl
 go_wp2_with fail
 have n0 := Aside0.mk (HP.out.new (g := W2.heap.size) rfl (blk_new W2 (.cells #[.int .i64 a.f0, .bool a.f1, .int .i64 a.f2, .string a.f3, .slice A4 a.f4.length c4, .slice A5 a.f5.length c5, .int .i64 b.f0, .bool b.f1, .int .i64 b.f2, .string b.f3, .slice B4 b.f4.length d4, .slice B5 b.f5.length d5] 25)) (below_alloc (Below.refl _ _) _))
 clear HP ya0 yb0 ya1 yb1 ya2 yb2 ya3 yb3 ya4 yb4 ya5 yb5
 have HP := n0
 clear n0
 generalize W2.alloc (.cells #[.int .i64 a.f0, .bool a.f1, .int .i64 a.f2, .string a.f3, .slice A4 a.f4.length c4, .slice A5 a.f5.length c5, .int .i64 b.f0, .bool b.f1, .int .i64 b.f2, .string b.f3, .slice B4 b.f4.length d4, .slice B5 b.f5.length d5] 25) = W3 at HP ⊢
 generalize W2.heap.size = bl at HP ⊢
 obtain ⟨Hb, hHb⟩ : ∃ Hb : Prop, Hb = (((Fck k b).bind fun e => if e = 0 then (cdiff k n a b ⟨#[]⟩).bind fun p => if p.1.length ≤ 1000000 ∧ p.2.length ≤ 1000000 then some (p.1 ++ p.2, 0) else none else some ([], e)) = some r) := ⟨_, rfl⟩
 go_loopg [14] 2 (fun kq v_ w' => ∃ (ii : Int), v_ = .int .i64 ii ∧ Aside0 ((ii = 0 ∧ kq = 2) ∨ (ii = 1 ∧ kq = 1 ∧ ea = 0) ∨ (ii = 2 ∧ kq = 0 ∧ ea = 0 ∧ Fck k b = some 0)) ∧ Aside0 (Bs w w' [(bl, #[.int .i64 a.f0, .bool a.f1, .int .i64 a.f2, .string a.f3, .slice A4 a.f4.length c4, .slice A5 a.f5.length c5, .int .i64 b.f0, .bool b.f1, .int .i64 b.f2, .string b.f3, .slice B4 b.f4.length d4, .slice B5 b.f5.length d5], 25), (bb, #[.int .i64 b.f0, .bool b.f1, .int .i64 b.f2, .string b.f3, .slice B4 b.f4.length d4, .slice B5 b.f5.length d5], 25), (ba, #[.int .i64 a.f0, .bool a.f1, .int .i64 a.f2, .string a.f3, .slice A4 a.f4.length c4, .slice A5 a.f5.length c5], 25)]))
 case atStart => exact ⟨0, rfl, ⟨.inl ⟨rfl, rfl⟩⟩, HP⟩
 case round =>
  clear HP
  obtain ⟨ii, rfl, HC, HP⟩ := hrel
  rcases HC.out with ⟨rfl, rfl⟩ | ⟨rfl, rfl, hea⟩ | ⟨rfl, rfl, hea, hcb⟩
  ·
   skip
   have yl0 : wr.cell? ⟨bl, 0, none⟩ = some (.int .i64 a.f0) := HP.out.cl 0 0 rfl rfl
   have yl1 : wr.cell? ⟨bl, 1, none⟩ = some (.bool a.f1) := HP.out.cl 0 1 rfl rfl
   have yl2 : wr.cell? ⟨bl, 2, none⟩ = some (.int .i64 a.f2) := HP.out.cl 0 2 rfl rfl
   have yl3 : wr.cell? ⟨bl, 3, none⟩ = some (.string a.f3) := HP.out.cl 0 3 rfl rfl
   have yl4 : wr.cell? ⟨bl, 4, none⟩ = some (.slice A4 a.f4.length c4) := HP.out.cl 0 4 rfl rfl
   have yl5 : wr.cell? ⟨bl, 5, none⟩ = some (.slice A5 a.f5.length c5) := HP.out.cl 0 5 rfl rfl
   go_upto_region 4 with (((with_reducible refine gate_dst (N := 7) rfl ?_); refine box_event ?hg (N := 7) ?hd (cs := #[.int .i64 0, .bool false, .int .i64 0, .string ⟨#[]⟩, .slice none 0 0, .slice none 0 0]) (t := 25) ?hr ?_; (case hd => rfl); (case hg => rfl); (case hr => first | (go_simp; done) | (go_simp; rfl)); intro bx hg_ y4 hbox hb; have n0 := Aside0.mk (HP.out.new hg_ hbox hb); clear HP; have HP := n0; clear n0; clear hg_ hbox hb; have yz0 : y4.cell? ⟨bx, 0, none⟩ = some (.int .i64 0) := HP.out.cl 0 0 rfl rfl; have yz1 : y4.cell? ⟨bx, 1, none⟩ = some (.bool false) := HP.out.cl 0 1 rfl rfl; have yz2 : y4.cell? ⟨bx, 2, none⟩ = some (.int .i64 0) := HP.out.cl 0 2 rfl rfl; have yz3 : y4.cell? ⟨bx, 3, none⟩ = some (.string ⟨#[]⟩) := HP.out.cl 0 3 rfl rfl; have yz4 : y4.cell? ⟨bx, 4, none⟩ = some (.slice none 0 0) := HP.out.cl 0 4 rfl rfl; have yz5 : y4.cell? ⟨bx, 5, none⟩ = some (.slice none 0 0) := HP.out.cl 0 5 rfl rfl; have zz0 := HP.out.fz 0 0 rfl; have zz1 := HP.out.fz 0 1 rfl; have zz2 := HP.out.fz 0 2 rfl; have zz3 := HP.out.fz 0 3 rfl; have zz4 := HP.out.fz 0 4 rfl; have zz5 := HP.out.fz 0 5 rfl))
   have n0 := Aside0.mk (HP.out.six 0 rfl (.int .i64 a.f0) (.bool a.f1) (.int .i64 a.f2) (.string a.f3) (.slice A4 a.f4.length c4) (.slice A5 a.f5.length c5))
   clear HP
   have HP := n0
   clear n0
   clear yz0 zz0 yl0 yz1 zz1 yl1 yz2 zz2 yl2 yz3 zz3 yl3 yz4 zz4 yl4 yz5 zz5 yl5
   generalize ((((((y4.setCell ⟨bx, 0, none⟩ (.int .i64 a.f0)).setCell ⟨bx, 1, none⟩ (.bool a.f1)).setCell ⟨bx, 2, none⟩ (.int .i64 a.f2)).setCell ⟨bx, 3, none⟩ (.string a.f3)).setCell ⟨bx, 4, none⟩ (.slice A4 a.f4.length c4)).setCell ⟨bx, 5, none⟩ (.slice A5 a.f5.length c5)) = y5 at HP ⊢
   have yx0 : y5.cell? ⟨bx, 0, none⟩ = some (.int .i64 a.f0) := HP.out.cl 0 0 rfl rfl
   have yx1 : y5.cell? ⟨bx, 1, none⟩ = some (.bool a.f1) := HP.out.cl 0 1 rfl rfl
   have yx2 : y5.cell? ⟨bx, 2, none⟩ = some (.int .i64 a.f2) := HP.out.cl 0 2 rfl rfl
   have yx3 : y5.cell? ⟨bx, 3, none⟩ = some (.string a.f3) := HP.out.cl 0 3 rfl rfl
   have yx4 : y5.cell? ⟨bx, 4, none⟩ = some (.slice A4 a.f4.length c4) := HP.out.cl 0 4 rfl rfl
   have yx5 : y5.cell? ⟨bx, 5, none⟩ = some (.slice A5 a.f5.length c5) := HP.out.cl 0 5 rfl rfl
   by_cases cz : ea = 0
   case neg =>
    have H1 := H.out
    rw [if_neg cz] at H1
    injection H1 with H1
    subst H1
    have eza : (ea == 0) = false := beq_eq_false_iff_ne.2 cz
    have ezb : (ea != 0) = true := bne_iff_ne.2 cz
    replace cz := Aside0.mk cz
    go_wp2_with (go_at_call 18; refine (check_calls k a A4 c4 A5 c5 ea _ (HA.out.below HP.out.B).now HCA.out).mono ?_; rintro e y6 ⟨rfl, hb⟩; have n0 := Aside0.mk (HP.out.below hb); clear HP; have HP := n0; clear n0; clear hb)
    refine bodyPost_ret (results_tmp2 rfl _ _ _) rfl ?_
    first | exact ⟨none, 0, rfl, Kd.C_nil _ _, Nat.le_refl _, HP.out.B⟩ | exact ⟨none, ⟨0, rfl⟩, Kd.C_nil _ _, HP.out.B⟩
   have eza : (ea == 0) = true := beq_iff_eq.2 cz
   have ezb : (ea != 0) = false := bne_eq_false_iff_eq.2 cz
   replace cz := Aside0.mk cz
   go_wp2_with (go_at_call 18; refine (check_calls k a A4 c4 A5 c5 ea _ (HA.out.below HP.out.B).now HCA.out).mono ?_; rintro e y6 ⟨rfl, hb⟩; have n0 := Aside0.mk (HP.out.below hb); clear HP; have HP := n0; clear n0; clear hb)
   go_roundg 1
   case measure => omega
   case rel => exact ⟨_, rfl, ⟨.inr (.inl ⟨by decide, rfl, cz.out⟩)⟩, ⟨HP.out.tail⟩⟩
  ·
   skip
   have H1 := H.out
   rw [if_pos hea] at H1
   obtain ⟨eb, hcb', _⟩ := Option.bind_eq_some_iff.1 H1
   have HCB := Aside0.mk hcb'
   clear H1
   have hcb_ := hcb'
   clear hcb'
   have HEA := Aside0.mk hea
   clear hea
   clear hcb_
   have yl0 : wr.cell? ⟨bl, 6, none⟩ = some (.int .i64 b.f0) := HP.out.cl 0 6 rfl rfl
   have yl1 : wr.cell? ⟨bl, 7, none⟩ = some (.bool b.f1) := HP.out.cl 0 7 rfl rfl
   have yl2 : wr.cell? ⟨bl, 8, none⟩ = some (.int .i64 b.f2) := HP.out.cl 0 8 rfl rfl
   have yl3 : wr.cell? ⟨bl, 9, none⟩ = some (.string b.f3) := HP.out.cl 0 9 rfl rfl
   have yl4 : wr.cell? ⟨bl, 10, none⟩ = some (.slice B4 b.f4.length d4) := HP.out.cl 0 10 rfl rfl
   have yl5 : wr.cell? ⟨bl, 11, none⟩ = some (.slice B5 b.f5.length d5) := HP.out.cl 0 11 rfl rfl
   go_upto_region 4 with (((with_reducible refine gate_dst (N := 7) rfl ?_); refine box_event ?hg (N := 7) ?hd (cs := #[.int .i64 0, .bool false, .int .i64 0, .string ⟨#[]⟩, .slice none 0 0, .slice none 0 0]) (t := 25) ?hr ?_; (case hd => rfl); (case hg => rfl); (case hr => first | (go_simp; done) | (go_simp; rfl)); intro bx hg_ y4 hbox hb; have n0 := Aside0.mk (HP.out.new hg_ hbox hb); clear HP; have HP := n0; clear n0; clear hg_ hbox hb; have yz0 : y4.cell? ⟨bx, 0, none⟩ = some (.int .i64 0) := HP.out.cl 0 0 rfl rfl; have yz1 : y4.cell? ⟨bx, 1, none⟩ = some (.bool false) := HP.out.cl 0 1 rfl rfl; have yz2 : y4.cell? ⟨bx, 2, none⟩ = some (.int .i64 0) := HP.out.cl 0 2 rfl rfl; have yz3 : y4.cell? ⟨bx, 3, none⟩ = some (.string ⟨#[]⟩) := HP.out.cl 0 3 rfl rfl; have yz4 : y4.cell? ⟨bx, 4, none⟩ = some (.slice none 0 0) := HP.out.cl 0 4 rfl rfl; have yz5 : y4.cell? ⟨bx, 5, none⟩ = some (.slice none 0 0) := HP.out.cl 0 5 rfl rfl; have zz0 := HP.out.fz 0 0 rfl; have zz1 := HP.out.fz 0 1 rfl; have zz2 := HP.out.fz 0 2 rfl; have zz3 := HP.out.fz 0 3 rfl; have zz4 := HP.out.fz 0 4 rfl; have zz5 := HP.out.fz 0 5 rfl))
   have n0 := Aside0.mk (HP.out.six 0 rfl (.int .i64 b.f0) (.bool b.f1) (.int .i64 b.f2) (.string b.f3) (.slice B4 b.f4.length d4) (.slice B5 b.f5.length d5))
   clear HP
   have HP := n0
   clear n0
   clear yz0 zz0 yl0 yz1 zz1 yl1 yz2 zz2 yl2 yz3 zz3 yl3 yz4 zz4 yl4 yz5 zz5 yl5
   generalize ((((((y4.setCell ⟨bx, 0, none⟩ (.int .i64 b.f0)).setCell ⟨bx, 1, none⟩ (.bool b.f1)).setCell ⟨bx, 2, none⟩ (.int .i64 b.f2)).setCell ⟨bx, 3, none⟩ (.string b.f3)).setCell ⟨bx, 4, none⟩ (.slice B4 b.f4.length d4)).setCell ⟨bx, 5, none⟩ (.slice B5 b.f5.length d5)) = y5 at HP ⊢
   have yx0 : y5.cell? ⟨bx, 0, none⟩ = some (.int .i64 b.f0) := HP.out.cl 0 0 rfl rfl
   have yx1 : y5.cell? ⟨bx, 1, none⟩ = some (.bool b.f1) := HP.out.cl 0 1 rfl rfl
   have yx2 : y5.cell? ⟨bx, 2, none⟩ = some (.int .i64 b.f2) := HP.out.cl 0 2 rfl rfl
   have yx3 : y5.cell? ⟨bx, 3, none⟩ = some (.string b.f3) := HP.out.cl 0 3 rfl rfl
   have yx4 : y5.cell? ⟨bx, 4, none⟩ = some (.slice B4 b.f4.length d4) := HP.out.cl 0 4 rfl rfl
   have yx5 : y5.cell? ⟨bx, 5, none⟩ = some (.slice B5 b.f5.length d5) := HP.out.cl 0 5 rfl rfl
   by_cases cz : eb = 0
   case neg =>
    have H1 := H.out
    rw [if_pos HEA.out, HCB.out, Option.bind_some, if_neg cz] at H1
    injection H1 with H1
    subst H1
    have eza : (eb == 0) = false := beq_eq_false_iff_ne.2 cz
    have ezb : (eb != 0) = true := bne_iff_ne.2 cz
    replace cz := Aside0.mk cz
    go_wp2_with (go_at_call 18; refine (check_calls k b B4 d4 B5 d5 eb _ (HBV.out.below HP.out.B).now HCB.out).mono ?_; rintro e y6 ⟨rfl, hb⟩; have n0 := Aside0.mk (HP.out.below hb); clear HP; have HP := n0; clear n0; clear hb)
    refine bodyPost_ret (results_tmp2 rfl _ _ _) rfl ?_
    first | exact ⟨none, 0, rfl, Kd.C_nil _ _, Nat.le_refl _, HP.out.B⟩ | exact ⟨none, ⟨0, rfl⟩, Kd.C_nil _ _, HP.out.B⟩
   have eza : (eb == 0) = true := beq_iff_eq.2 cz
   have ezb : (eb != 0) = false := bne_eq_false_iff_eq.2 cz
   replace cz := Aside0.mk cz
   go_wp2_with (go_at_call 18; refine (check_calls k b B4 d4 B5 d5 eb _ (HBV.out.below HP.out.B).now HCB.out).mono ?_; rintro e y6 ⟨rfl, hb⟩; have n0 := Aside0.mk (HP.out.below hb); clear HP; have HP := n0; clear n0; clear hb)
   go_roundg 0
   case measure => omega
   case rel => exact ⟨_, rfl, ⟨.inr (.inr ⟨by decide, rfl, HEA.out, by rw [HCB.out, cz.out]⟩)⟩, ⟨HP.out.tail⟩⟩
  ·
   skip
   have H1 := H.out
   rw [if_pos hea, hcb, Option.bind_some, if_pos rfl] at H1
   obtain ⟨⟨pg, po⟩, hdf, H1⟩ := Option.bind_eq_some_iff.1 H1
   dsimp only at H1
   by_cases cl : pg.length ≤ 1000000 ∧ po.length ≤ 1000000
   case neg => rw [if_neg cl] at H1; cases H1
   rw [if_pos cl] at H1
   injection H1 with H1
   subst H1
   have HDF := Aside0.mk hdf
   have HCL := Aside0.mk cl
   clear hdf cl hea hcb H HC
   go_upto_region 9 with (((with_reducible refine gate_dst (N := 25) rfl ?_); refine box_event ?hg (N := 25) ?hd (cs := #[.slice none 0 0, .slice none 0 0]) (t := 66) ?hr ?_; (case hd => rfl); (case hg => rfl); (case hr => first | (go_simp; done) | (go_simp; rfl)); intro bd hg_ W4 hbox hb; have n0 := Aside0.mk (HP.out.new hg_ hbox hb); clear HP; have HP := n0; clear n0; clear hg_ hbox hb))
   have ya0 : W4.cell? ⟨ba, 0, none⟩ = some (.int .i64 a.f0) := HP.out.cl 3 0 rfl rfl
   have ya1 : W4.cell? ⟨ba, 1, none⟩ = some (.bool a.f1) := HP.out.cl 3 1 rfl rfl
   have ya2 : W4.cell? ⟨ba, 2, none⟩ = some (.int .i64 a.f2) := HP.out.cl 3 2 rfl rfl
   have ya3 : W4.cell? ⟨ba, 3, none⟩ = some (.string a.f3) := HP.out.cl 3 3 rfl rfl
   have ya4 : W4.cell? ⟨ba, 4, none⟩ = some (.slice A4 a.f4.length c4) := HP.out.cl 3 4 rfl rfl
   have ya5 : W4.cell? ⟨ba, 5, none⟩ = some (.slice A5 a.f5.length c5) := HP.out.cl 3 5 rfl rfl
   have yb0 : W4.cell? ⟨bb, 0, none⟩ = some (.int .i64 b.f0) := HP.out.cl 2 0 rfl rfl
   have yb1 : W4.cell? ⟨bb, 1, none⟩ = some (.bool b.f1) := HP.out.cl 2 1 rfl rfl
   have yb2 : W4.cell? ⟨bb, 2, none⟩ = some (.int .i64 b.f2) := HP.out.cl 2 2 rfl rfl
   have yb3 : W4.cell? ⟨bb, 3, none⟩ = some (.string b.f3) := HP.out.cl 2 3 rfl rfl
   have yb4 : W4.cell? ⟨bb, 4, none⟩ = some (.slice B4 b.f4.length d4) := HP.out.cl 2 4 rfl rfl
   have yb5 : W4.cell? ⟨bb, 5, none⟩ = some (.slice B5 b.f5.length d5) := HP.out.cl 2 5 rfl rfl
   have HD := Aside0.mk (show DS w.heap.size bd W4 (.slice none 0 0) (.slice none 0 0) [] [] from ⟨HP.out.get 0 rfl, HP.out.low 0 rfl, Kd.N_nil _ _ _ _ _, Kd.N_nil _ _ _ _ _⟩)
   go_upto_region 10 with (go_at_call 25; refine (diff_calls k n a A4 c4 A5 c5 b B4 d4 B5 d5 ⟨#[]⟩ pg po _ w.heap.size bd _ _ [] [] (HA.out.below HP.out.B) (HBV.out.below HP.out.B) HD.out HP.out.size (by have := HCL.out; simp only [List.length_nil]; omega) HDF.out).mono ?_; rintro e W5 ⟨uG, uO, rfl, hd, hf⟩; have HB5 := Aside0.mk (HP.out.B.trans (hf.old HD.out HP.out.size)); clear HD HP hf; have HD := Aside0.mk hd; clear hd)
   clear ya0 yb0 ya1 yb1 ya2 yb2 ya3 yb3 ya4 yb4 ya5 yb5
   rw [List.nil_append, List.nil_append] at HD
   obtain ⟨Ag, cg, hvg⟩ := Kd.N_slice HD.out.G
   subst hvg
   obtain ⟨Ao, co, hvo⟩ := Kd.N_slice HD.out.O
   subst hvo
   have hb := below_drew (Below.refl W5.heap.size W5)
   have n0 := Aside0.mk (HD.out.below hb)
   have n1 := Aside0.mk (below_step HB5.out hb)
   clear HD HB5
   have HD := n0
   have HB5 := n1
   clear n0 n1
   clear hb
   refine start_ (n := 11) (S := fun w' => w'.cell? ⟨bd, 0, none⟩ = some (.slice Ag pg.length cg) ∧ w'.cell? ⟨bd, 1, none⟩ = some (.slice Ao po.length co)) (ds := [8]) #[false, false, false, false, false, false, false, false, false, false, false] (by kernel_rfl) rfl rfl ⟨(blk_cell HD.out.D 0).trans rfl, (blk_cell HD.out.D 1).trans rfl⟩ (fun hHeld => ?_)
   generalize W5.drew = W6 at HD HB5 hHeld ⊢
   refine pure_ (i := 0) (N := some 30) (v := ?_) (a' := ?_) (ob 11 1) rfl rfl (by kernel_rfl) (fun _ _ _ h => h) (Or.inl ⟨by rfl, ?_⟩) ?_ ?_
   rotate_left
   ·intro w'
    go_simp
    with_reducible rfl
   rotate_left
   ·simp only [Act.put, List.setIfInBounds_toArray, List.set_cons_zero, List.set_cons_succ, i64_w, i32_w]
    rfl
   refine pure_ (i := 1) (N := some 31) (v := ?_) (a' := ?_) (ob 11 3) rfl rfl (by kernel_rfl) (fun _ _ _ h => h) (Or.inl ⟨by rfl, ?_⟩) ?_ ?_
   rotate_left
   ·intro w'
    go_simp
    with_reducible rfl
   rotate_left
   ·simp only [Act.put, List.setIfInBounds_toArray, List.set_cons_zero, List.set_cons_succ, i64_w, i32_w]
    rfl
   refine pure_ (i := 2) (N := some 32) (v := ?_) (a' := ?_) (ob 11 7) rfl rfl (by kernel_rfl) (fun _ _ _ h => h) (Or.inl ⟨by rfl, ?_⟩) ?_ ?_
   rotate_left
   ·intro w'
    go_simp
    with_reducible rfl
   rotate_left
   ·simp only [Act.put, List.setIfInBounds_toArray, List.set_cons_zero, List.set_cons_succ, i64_w, i32_w]
    rfl
   refine pure_ (i := 4) (N := some 34) (v := ?_) (a' := ?_) (ob 11 23) rfl rfl (by kernel_rfl) (fun _ _ _ h => h) (Or.inl ⟨by rfl, ?_⟩) ?_ ?_
   rotate_left
   ·intro w'
    go_simp
    with_reducible rfl
   rotate_left
   ·simp only [Act.put, List.setIfInBounds_toArray, List.set_cons_zero, List.set_cons_succ, i64_w, i32_w]
    rfl
   refine pure_ (i := 5) (N := some 35) (v := ?_) (a' := ?_) (ob 11 55) rfl rfl (by kernel_rfl) (fun _ _ _ h => h) (Or.inl ⟨by rfl, ?_⟩) ?_ ?_
   rotate_left
   ·intro w'
    go_simp
    with_reducible rfl
   rotate_left
   ·simp only [Act.put, List.setIfInBounds_toArray, List.set_cons_zero, List.set_cons_succ, i64_w, i32_w]
    rfl
   refine pure_ (i := 6) (N := some 36) (v := ?_) (a' := ?_) (ob 11 119) rfl rfl (by kernel_rfl) (fun _ _ _ h => h) (Or.inl ⟨by rfl, ?_⟩) ?_ ?_
   rotate_left
   ·intro w'
    go_simp
    with_reducible rfl
   rotate_left
   ·simp only [Act.put, List.setIfInBounds_toArray, List.set_cons_zero, List.set_cons_succ, i64_w, i32_w]
    rfl
   refine take_ (i := 3) (N := some 33) (v := ?_) (a' := ?_) (ob 11 127) rfl rfl (by kernel_rfl) (fun _ _ _ h => h) (Or.inl ⟨by rfl, ?_⟩) hHeld ?_ ?_
   rotate_left
   ·rintro w' ⟨s0, s1⟩
    go_simp
    with_reducible rfl
   rotate_left
   ·simp only [Act.put, List.setIfInBounds_toArray, List.set_cons_zero, List.set_cons_succ, i64_w, i32_w]
    rfl
   refine take_ (i := 7) (N := some 37) (v := ?_) (a' := ?_) (ob 11 255) rfl rfl (by kernel_rfl) (fun _ _ _ h => h) (Or.inl ⟨by rfl, ?_⟩) hHeld ?_ ?_
   rotate_left
   ·rintro w' ⟨s0, s1⟩
    go_simp
    with_reducible rfl
   rotate_left
   ·simp only [Act.put, List.setIfInBounds_toArray, List.set_cons_zero, List.set_cons_succ, i64_w, i32_w]
    rfl
   refine last_ (i := 8) (N := some 38) (ob 11 511) rfl rfl (by kernel_rfl) (by decide) (fun K hK => ?_)
   refine Kd.N_append_rows_step k69 (w0 := W6) w.heap.size (by rfl) (.tmp 33) (.tmp 37) 35 69 (.agg #[.string ⟨#[]⟩, .int .i64 0, .bool false, .int .i64 0, .string ⟨#[]⟩, .slice none 0 0, .slice none 0 0, .bool false]) 112 rfl Tryz.underlying35 info69' rfl (by decide) (by omega) (.slice Ag pg.length cg) pg po _ _ _ (fun q => q ≠ bd) (fun q => q ≠ bd ∧ some q ≠ (Value.slice Ag pg.length cg).ownBlock) rfl rfl (Kd.N_mono HD.out.G (fun q hq => hq.1)) (Kd.N_F HD.out.O) (fun q hq => hq) (fun q hq => by have h_ := blk_lt HD.out.D; omega) (Below.refl _ _) (Nat.le_trans HD.out.lo (Nat.le_of_lt (blk_lt HD.out.D))) (by have := HCL.out; omega) ?_
   intro v_ W7 ho hb hg hat
   have HB7 := Aside0.mk (HB5.out.grown hg (Nat.le_trans HD.out.lo (Nat.le_of_lt (blk_lt HD.out.D))) (fun q e_ => Kd.N_base HD.out.G q e_))
   have HO := Aside0.mk ho
   clear ho hb hg hat HD HB5
   obtain ⟨Ar, cr, hvr⟩ := Kd.N_slice HO.out
   subst hvr
   refine hK.out _ _ ?_
   clear hK K
   refine norm_ (a' := ?_) ?_ ?_
   rotate_left
   ·show Act.put _ (some 38) _ = _
    simp only [Act.put, List.setIfInBounds_toArray, List.set_cons_zero, List.set_cons_succ, i64_w, i32_w]
    rfl
   refine pure_ (i := 9) (N := some 4) (v := ?_) (a' := ?_) (ob 11 1023) rfl rfl (by kernel_rfl) (fun _ _ _ h => h) (Or.inl ⟨by rfl, ?_⟩) ?_ ?_
   rotate_left
   ·intro w'
    go_simp
    with_reducible rfl
   rotate_left
   ·simp only [Act.put, List.setIfInBounds_toArray, List.set_cons_zero, List.set_cons_succ, i64_w, i32_w]
    rfl
   refine pure_ (i := 10) (N := some 5) (v := ?_) (a' := ?_) (ob 11 2047) rfl rfl (by kernel_rfl) (fun _ _ _ h => h) (Or.inl ⟨by rfl, ?_⟩) ?_ ?_
   rotate_left
   ·intro w'
    go_simp
    with_reducible rfl
   rotate_left
   ·simp only [Act.put, List.setIfInBounds_toArray, List.set_cons_zero, List.set_cons_succ, i64_w, i32_w]
    rfl
   refine done_ (by kernel_rfl) ?_
   go_wp2_with fail
   refine bodyPost_ret (results_tmp2 rfl _ _ _) rfl ?_
   have hr_ := Kd.N_reads' HO.out
   have hl_ : (pg ++ po).length = pg.length + po.length := List.length_append
   first | exact ⟨Ar, cr, rfl, hr_.2.2, hr_.2.1, HB7.out⟩ | exact ⟨Ar, cr, by rw [hl_] <;> rfl, by rw [← hl_]; exact hr_.2.2, by rw [← hl_]; exact hr_.2.1, HB7.out⟩ | exact ⟨Ar, cr, by simp only [hl_]; rfl, by rw [← hl_]; exact hr_.2.2, by rw [← hl_]; exact hr_.2.1, HB7.out⟩
end Go.Proofs.YtlofkjdcapbohaaGreatDoor.PConfKeeps
