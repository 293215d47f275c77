/- For the law ConfMends: the law itself, walked. No condition. -/
import Derived.Test.YtlofkjdcapbohaaGreatDoorCfZA
namespace Go.Proofs.YtlofkjdcapbohaaGreatDoor.PConfKeeps
open Go.RowKit Go.Proofs.YtlofkjdcapbohaaGreatDoorW.PrintWords Go.Proofs.YtlofkjdcapbohaaGreatDoorW.PrintLast Go.Proofs.YtlofkjdcapbohaaGreatDoorW.PrintMore
set_option linter.unusedVariables false
set_option linter.unusedSimpArgs false

set_option maxHeartbeats 4000000 in
set_option maxRecDepth 100000 in
/-- Diff returns an error. -/
theorem mends_bad (k n : Nat) (a : S25) (A4 : Option Addr) (c4 : Nat) (A5 : Option Addr) (c5 : Nat) (b : S25) (B4 : Option Addr) (d4 : Nat) (B5 : Option Addr) (d5 : Nat) (l : List S69) (w : World) (ha : Rd w a A4 c4 A5 c5) (hb : Rd w b B4 d4 B5 d5) (er : Int) (hf : cDiff k n a b = some (l, er)) (he : er ≠ 0) (hl : l.length = 0) :
  Calls Tryz.prog 4 #[.agg #[.int .i64 a.f0, .bool a.f1, .int .i64 a.f2, .string a.f3, .slice A4 a.f4.length c4, .slice A5 a.f5.length c5], .agg #[.int .i64 b.f0, .bool b.f1, .int .i64 b.f2, .string b.f3, .slice B4 b.f4.length d4, .slice B5 b.f5.length d5]] w fun e w' => e = .returned (.bool true) ∧ Below w.heap.size w w' := by
 have hu25 := Tryz.underlying25
 have HA := Aside0.mk ha.F
 have HBV := Aside0.mk hb.F
 have HF := Aside0.mk hf
 have HP := Aside0.mk (Bs.nil w)
 clear ha hb hf
 have c1 := he
 have s1 : ((l.length : Int) == 0) = true := beq_iff_eq.2 (by omega)
 have s2 : (l.length == 0) = true := beq_iff_eq.2 hl
 clear hl
 go_enter Tryz.func4, Tryz.ntmps4
 have e1a : (er == 0) = false := beq_eq_false_iff_ne.2 c1
 have e1b : (er != 0) = true := bne_iff_ne.2 c1
 go_upto_region 3 with (first | ((with_reducible refine gate_dst (N := 2) rfl ?_); refine box_event ?hg (N := 2) ?hd (cs := #[.int .i64 a.f0, .bool a.f1, .int .i64 a.f2, .string a.f3, .slice A4 a.f4.length c4, .slice A5 a.f5.length c5]) (t := 25) ?hr ?_; (case hd => rfl); (case hg => rfl); (case hr => first | (go_simp; done) | (go_simp; rfl)); intro ba hg_ W1 hbox hb; have n0 := Aside0.mk (HP.out.new hg_ hbox hb); clear HP; have HP := n0; clear n0; clear hg_ hbox hb) | ((with_reducible refine gate_dst (N := 3) rfl ?_); refine box_event ?hg (N := 3) ?hd (cs := #[.int .i64 b.f0, .bool b.f1, .int .i64 b.f2, .string b.f3, .slice B4 b.f4.length d4, .slice B5 b.f5.length d5]) (t := 25) ?hr ?_; (case hd => rfl); (case hg => rfl); (case hr => first | (go_simp; done) | (go_simp; rfl)); intro bb hg_ W2 hbox hb; have n0 := Aside0.mk (HP.out.new hg_ hbox hb); clear HP; have HP := n0; clear n0; clear hg_ hbox hb) | (go_at_call 7; refine (mastkeep2_awakeConf.calls true _ rfl).mono ?_; rintro e w3 ⟨rfl, hb⟩; have n0 := Aside0.mk (HP.out.below hb); clear HP; have HP := n0; clear n0; clear hb; have ya0 : w3.cell? ⟨ba, 0, none⟩ = some (.int .i64 a.f0) := HP.out.cl 1 0 rfl rfl; have ya1 : w3.cell? ⟨ba, 1, none⟩ = some (.bool a.f1) := HP.out.cl 1 1 rfl rfl; have ya2 : w3.cell? ⟨ba, 2, none⟩ = some (.int .i64 a.f2) := HP.out.cl 1 2 rfl rfl; have ya3 : w3.cell? ⟨ba, 3, none⟩ = some (.string a.f3) := HP.out.cl 1 3 rfl rfl; have ya4 : w3.cell? ⟨ba, 4, none⟩ = some (.slice A4 a.f4.length c4) := HP.out.cl 1 4 rfl rfl; have ya5 : w3.cell? ⟨ba, 5, none⟩ = some (.slice A5 a.f5.length c5) := HP.out.cl 1 5 rfl rfl; have yb0 : w3.cell? ⟨bb, 0, none⟩ = some (.int .i64 b.f0) := HP.out.cl 0 0 rfl rfl; have yb1 : w3.cell? ⟨bb, 1, none⟩ = some (.bool b.f1) := HP.out.cl 0 1 rfl rfl; have yb2 : w3.cell? ⟨bb, 2, none⟩ = some (.int .i64 b.f2) := HP.out.cl 0 2 rfl rfl; have yb3 : w3.cell? ⟨bb, 3, none⟩ = some (.string b.f3) := HP.out.cl 0 3 rfl rfl; have yb4 : w3.cell? ⟨bb, 4, none⟩ = some (.slice B4 b.f4.length d4) := HP.out.cl 0 4 rfl rfl; have yb5 : w3.cell? ⟨bb, 5, none⟩ = some (.slice B5 b.f5.length d5) := HP.out.cl 0 5 rfl rfl))
 go_wp2_with (go_at_call 12; refine (Diff_calls k n a A4 c4 A5 c5 b B4 d4 B5 d5 (l, er) _ (HA.out.below HP.out.B).now (HBV.out.below HP.out.B).now HF.out).mono ?_; rintro e w4 ⟨L, lc, rfl, hC, hlc, hb⟩; have HC := Aside0.mk hC; have HLC := Aside0.mk hlc; have n0 := Aside0.mk (HP.out.below hb); clear HP; have HP := n0; clear n0; clear hb hC hlc)
 go_ret
 exact ⟨rfl, HP.out.B⟩
set_option maxHeartbeats 4000000 in
set_option maxRecDepth 100000 in
/-- Diff returns changes. -/
theorem mends_good (k n : Nat) (a : S25) (A4 : Option Addr) (c4 : Nat) (A5 : Option Addr) (c5 : Nat) (b : S25) (B4 : Option Addr) (d4 : Nat) (B5 : Option Addr) (d5 : Nat) (l : List S69) (w : World) (ha : Rd w a A4 c4 A5 c5) (hb : Rd w b B4 d4 B5 d5) (x r : S25) (bs : Bool) (hf : cDiff k n a b = some (l, 0)) (hap : ApOk k a l x r) (h1 : Fsm k r b = some true) (h2 : Fsm k a b = some bs) (hl : (l.length == 0) = bs) :
  Calls Tryz.prog 4 #[.agg #[.int .i64 a.f0, .bool a.f1, .int .i64 a.f2, .string a.f3, .slice A4 a.f4.length c4, .slice A5 a.f5.length c5], .agg #[.int .i64 b.f0, .bool b.f1, .int .i64 b.f2, .string b.f3, .slice B4 b.f4.length d4, .slice B5 b.f5.length d5]] w fun e w' => e = .returned (.bool true) ∧ Below w.heap.size w w' := by
 have hu25 := Tryz.underlying25
 have HA := Aside0.mk ha.F
 have HBV := Aside0.mk hb.F
 have HF := Aside0.mk hf
 have HP := Aside0.mk (Bs.nil w)
 clear ha hb hf
 have HAP := Aside0.mk hap
 have H1 := Aside0.mk h1
 have H2 := Aside0.mk h2
 have s1 : ((l.length : Int) == 0) = bs := by rw [← hl]; rw [Bool.eq_iff_iff, beq_iff_eq, beq_iff_eq]; omega
 have HL := Aside0.mk hl
 clear hap h1 h2 hl
 go_enter Tryz.func4, Tryz.ntmps4
 go_upto_region 3 with (first | ((with_reducible refine gate_dst (N := 2) rfl ?_); refine box_event ?hg (N := 2) ?hd (cs := #[.int .i64 a.f0, .bool a.f1, .int .i64 a.f2, .string a.f3, .slice A4 a.f4.length c4, .slice A5 a.f5.length c5]) (t := 25) ?hr ?_; (case hd => rfl); (case hg => rfl); (case hr => first | (go_simp; done) | (go_simp; rfl)); intro ba hg_ W1 hbox hb; have n0 := Aside0.mk (HP.out.new hg_ hbox hb); clear HP; have HP := n0; clear n0; clear hg_ hbox hb) | ((with_reducible refine gate_dst (N := 3) rfl ?_); refine box_event ?hg (N := 3) ?hd (cs := #[.int .i64 b.f0, .bool b.f1, .int .i64 b.f2, .string b.f3, .slice B4 b.f4.length d4, .slice B5 b.f5.length d5]) (t := 25) ?hr ?_; (case hd => rfl); (case hg => rfl); (case hr => first | (go_simp; done) | (go_simp; rfl)); intro bb hg_ W2 hbox hb; have n0 := Aside0.mk (HP.out.new hg_ hbox hb); clear HP; have HP := n0; clear n0; clear hg_ hbox hb) | (go_at_call 7; refine (mastkeep2_awakeConf.calls true _ rfl).mono ?_; rintro e w3 ⟨rfl, hb⟩; have n0 := Aside0.mk (HP.out.below hb); clear HP; have HP := n0; clear n0; clear hb; have ya0 : w3.cell? ⟨ba, 0, none⟩ = some (.int .i64 a.f0) := HP.out.cl 1 0 rfl rfl; have ya1 : w3.cell? ⟨ba, 1, none⟩ = some (.bool a.f1) := HP.out.cl 1 1 rfl rfl; have ya2 : w3.cell? ⟨ba, 2, none⟩ = some (.int .i64 a.f2) := HP.out.cl 1 2 rfl rfl; have ya3 : w3.cell? ⟨ba, 3, none⟩ = some (.string a.f3) := HP.out.cl 1 3 rfl rfl; have ya4 : w3.cell? ⟨ba, 4, none⟩ = some (.slice A4 a.f4.length c4) := HP.out.cl 1 4 rfl rfl; have ya5 : w3.cell? ⟨ba, 5, none⟩ = some (.slice A5 a.f5.length c5) := HP.out.cl 1 5 rfl rfl; have yb0 : w3.cell? ⟨bb, 0, none⟩ = some (.int .i64 b.f0) := HP.out.cl 0 0 rfl rfl; have yb1 : w3.cell? ⟨bb, 1, none⟩ = some (.bool b.f1) := HP.out.cl 0 1 rfl rfl; have yb2 : w3.cell? ⟨bb, 2, none⟩ = some (.int .i64 b.f2) := HP.out.cl 0 2 rfl rfl; have yb3 : w3.cell? ⟨bb, 3, none⟩ = some (.string b.f3) := HP.out.cl 0 3 rfl rfl; have yb4 : w3.cell? ⟨bb, 4, none⟩ = some (.slice B4 b.f4.length d4) := HP.out.cl 0 4 rfl rfl; have yb5 : w3.cell? ⟨bb, 5, none⟩ = some (.slice B5 b.f5.length d5) := HP.out.cl 0 5 rfl rfl))
 go_upto_region 6 with (go_at_call 12; refine (Diff_calls k n a A4 c4 A5 c5 b B4 d4 B5 d5 (l, 0) _ (HA.out.below HP.out.B).now (HBV.out.below HP.out.B).now HF.out).mono ?_; rintro e w4 ⟨L, lc, rfl, hC, hlc, hb⟩; have HC := Aside0.mk hC; have HLC := Aside0.mk hlc; have n0 := Aside0.mk (HP.out.below hb); clear HP; have HP := n0; clear n0; clear hb hC hlc)
 clear ya0 yb0 ya1 yb1 ya2 yb2 ya3 yb3 ya4 yb4 ya5 yb5
 have ya0 : w4.cell? ⟨ba, 0, none⟩ = some (.int .i64 a.f0) := HP.out.cl 1 0 rfl rfl
 have ya1 : w4.cell? ⟨ba, 1, none⟩ = some (.bool a.f1) := HP.out.cl 1 1 rfl rfl
 have ya2 : w4.cell? ⟨ba, 2, none⟩ = some (.int .i64 a.f2) := HP.out.cl 1 2 rfl rfl
 have ya3 : w4.cell? ⟨ba, 3, none⟩ = some (.string a.f3) := HP.out.cl 1 3 rfl rfl
 have ya4 : w4.cell? ⟨ba, 4, none⟩ = some (.slice A4 a.f4.length c4) := HP.out.cl 1 4 rfl rfl
 have ya5 : w4.cell? ⟨ba, 5, none⟩ = some (.slice A5 a.f5.length c5) := HP.out.cl 1 5 rfl rfl
 go_upto_region 7 with (first | (go_at_call 13; refine (Apply_calls k a A4 c4 A5 c5 l L lc x r _ (HA.out.below HP.out.B).now HC.out HLC.out HAP.out).mono ?_; rintro e w5 ⟨E4, e4, E5, e5, rfl, hr, hb⟩; have HR := Aside0.mk hr; have n0 := Aside0.mk (HP.out.below hb); clear HP; have HP := n0; clear n0; clear hb hr) | ((with_reducible refine gate_dst (N := 7) rfl ?_); refine box_event ?hg (N := 7) ?hd (cs := #[.int .i64 0, .bool false, .int .i64 0, .string ⟨#[]⟩, .slice none 0 0, .slice none 0 0]) (t := 25) ?hr ?_; (case hd => rfl); (case hg => rfl); (case hr => first | (go_simp; done) | (go_simp; rfl)); intro bx hg_ w6 hbox hb; have n0 := Aside0.mk (HP.out.new hg_ hbox hb); have n1 := Aside0.mk (HR.out.F.bound.below hb); have n2 := Aside0.mk ((show _ = bx from hg_.symm)); clear HP HR; have HP := n0; have HR := n1; have HGE := n2; clear n0 n1 n2; clear hg_ hbox hb; have yz0 : w6.cell? ⟨bx, 0, none⟩ = some (.int .i64 0) := HP.out.cl 0 0 rfl rfl; have yz1 : w6.cell? ⟨bx, 1, none⟩ = some (.bool false) := HP.out.cl 0 1 rfl rfl; have yz2 : w6.cell? ⟨bx, 2, none⟩ = some (.int .i64 0) := HP.out.cl 0 2 rfl rfl; have yz3 : w6.cell? ⟨bx, 3, none⟩ = some (.string ⟨#[]⟩) := HP.out.cl 0 3 rfl rfl; have yz4 : w6.cell? ⟨bx, 4, none⟩ = some (.slice none 0 0) := HP.out.cl 0 4 rfl rfl; have yz5 : w6.cell? ⟨bx, 5, none⟩ = some (.slice none 0 0) := HP.out.cl 0 5 rfl rfl; have zz0 := HP.out.fz 0 0 rfl; have zz1 := HP.out.fz 0 1 rfl; have zz2 := HP.out.fz 0 2 rfl; have zz3 := HP.out.fz 0 3 rfl; have zz4 := HP.out.fz 0 4 rfl; have zz5 := HP.out.fz 0 5 rfl))
 have n0 := Aside0.mk (HP.out.six 0 rfl (.int .i64 r.f0) (.bool r.f1) (.int .i64 r.f2) (.string r.f3) (.slice E4 r.f4.length e4) (.slice E5 r.f5.length e5))
 have n1 := Aside0.mk ((HR.out.six (g := bx) (fun k hk => by have := hk.2; have := HGE.out; omega) (.int .i64 r.f0) (.bool r.f1) (.int .i64 r.f2) (.string r.f3) (.slice E4 r.f4.length e4) (.slice E5 r.f5.length e5)).now)
 clear HP HR
 have HP := n0
 have HR := n1
 clear n0 n1
 clear HGE yz0 zz0 ya0 yz1 zz1 ya1 yz2 zz2 ya2 yz3 zz3 ya3 yz4 zz4 ya4 yz5 zz5 ya5
 generalize ((((((w6.setCell ⟨bx, 0, none⟩ (.int .i64 r.f0)).setCell ⟨bx, 1, none⟩ (.bool r.f1)).setCell ⟨bx, 2, none⟩ (.int .i64 r.f2)).setCell ⟨bx, 3, none⟩ (.string r.f3)).setCell ⟨bx, 4, none⟩ (.slice E4 r.f4.length e4)).setCell ⟨bx, 5, none⟩ (.slice E5 r.f5.length e5)) = w7 at HP HR ⊢
 have yx0 : w7.cell? ⟨bx, 0, none⟩ = some (.int .i64 r.f0) := HP.out.cl 0 0 rfl rfl
 have yx1 : w7.cell? ⟨bx, 1, none⟩ = some (.bool r.f1) := HP.out.cl 0 1 rfl rfl
 have yx2 : w7.cell? ⟨bx, 2, none⟩ = some (.int .i64 r.f2) := HP.out.cl 0 2 rfl rfl
 have yx3 : w7.cell? ⟨bx, 3, none⟩ = some (.string r.f3) := HP.out.cl 0 3 rfl rfl
 have yx4 : w7.cell? ⟨bx, 4, none⟩ = some (.slice E4 r.f4.length e4) := HP.out.cl 0 4 rfl rfl
 have yx5 : w7.cell? ⟨bx, 5, none⟩ = some (.slice E5 r.f5.length e5) := HP.out.cl 0 5 rfl rfl
 have yb0 : w7.cell? ⟨bb, 0, none⟩ = some (.int .i64 b.f0) := HP.out.cl 1 0 rfl rfl
 have yb1 : w7.cell? ⟨bb, 1, none⟩ = some (.bool b.f1) := HP.out.cl 1 1 rfl rfl
 have yb2 : w7.cell? ⟨bb, 2, none⟩ = some (.int .i64 b.f2) := HP.out.cl 1 2 rfl rfl
 have yb3 : w7.cell? ⟨bb, 3, none⟩ = some (.string b.f3) := HP.out.cl 1 3 rfl rfl
 have yb4 : w7.cell? ⟨bb, 4, none⟩ = some (.slice B4 b.f4.length d4) := HP.out.cl 1 4 rfl rfl
 have yb5 : w7.cell? ⟨bb, 5, none⟩ = some (.slice B5 b.f5.length d5) := HP.out.cl 1 5 rfl rfl
 have ya0 : w7.cell? ⟨ba, 0, none⟩ = some (.int .i64 a.f0) := HP.out.cl 2 0 rfl rfl
 have ya1 : w7.cell? ⟨ba, 1, none⟩ = some (.bool a.f1) := HP.out.cl 2 1 rfl rfl
 have ya2 : w7.cell? ⟨ba, 2, none⟩ = some (.int .i64 a.f2) := HP.out.cl 2 2 rfl rfl
 have ya3 : w7.cell? ⟨ba, 3, none⟩ = some (.string a.f3) := HP.out.cl 2 3 rfl rfl
 have ya4 : w7.cell? ⟨ba, 4, none⟩ = some (.slice A4 a.f4.length c4) := HP.out.cl 2 4 rfl rfl
 have ya5 : w7.cell? ⟨ba, 5, none⟩ = some (.slice A5 a.f5.length c5) := HP.out.cl 2 5 rfl rfl
 go_wp2_with (first | (go_at_call 9; refine (same_calls k r E4 e4 E5 e5 b B4 d4 B5 d5 true _ HR.out (HBV.out.below HP.out.B).now H1.out).mono ?_; rintro e w8 ⟨rfl, hb⟩; clear HR; have n0 := Aside0.mk (HP.out.below hb); clear HP; have HP := n0; clear n0; clear hb; have yc0 : w8.cell? ⟨bb, 0, none⟩ = some (.int .i64 b.f0) := HP.out.cl 1 0 rfl rfl; have yc1 : w8.cell? ⟨bb, 1, none⟩ = some (.bool b.f1) := HP.out.cl 1 1 rfl rfl; have yc2 : w8.cell? ⟨bb, 2, none⟩ = some (.int .i64 b.f2) := HP.out.cl 1 2 rfl rfl; have yc3 : w8.cell? ⟨bb, 3, none⟩ = some (.string b.f3) := HP.out.cl 1 3 rfl rfl; have yc4 : w8.cell? ⟨bb, 4, none⟩ = some (.slice B4 b.f4.length d4) := HP.out.cl 1 4 rfl rfl; have yc5 : w8.cell? ⟨bb, 5, none⟩ = some (.slice B5 b.f5.length d5) := HP.out.cl 1 5 rfl rfl; have yd0 : w8.cell? ⟨ba, 0, none⟩ = some (.int .i64 a.f0) := HP.out.cl 2 0 rfl rfl; have yd1 : w8.cell? ⟨ba, 1, none⟩ = some (.bool a.f1) := HP.out.cl 2 1 rfl rfl; have yd2 : w8.cell? ⟨ba, 2, none⟩ = some (.int .i64 a.f2) := HP.out.cl 2 2 rfl rfl; have yd3 : w8.cell? ⟨ba, 3, none⟩ = some (.string a.f3) := HP.out.cl 2 3 rfl rfl; have yd4 : w8.cell? ⟨ba, 4, none⟩ = some (.slice A4 a.f4.length c4) := HP.out.cl 2 4 rfl rfl; have yd5 : w8.cell? ⟨ba, 5, none⟩ = some (.slice A5 a.f5.length c5) := HP.out.cl 2 5 rfl rfl) | (go_at_call 9; refine (same_calls k a A4 c4 A5 c5 b B4 d4 B5 d5 bs _ (HA.out.below HP.out.B).now (HBV.out.below HP.out.B).now H2.out).mono ?_; rintro e w9 ⟨rfl, hb⟩; have n0 := Aside0.mk (HP.out.below hb); clear HP; have HP := n0; clear n0; clear hb))
 all_goals (go_ret; first | exact ⟨rfl, HP.out.B⟩ | (refine ⟨?_, HP.out.B⟩; simp))
end Go.Proofs.YtlofkjdcapbohaaGreatDoor.PConfKeeps
