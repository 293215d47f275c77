/- For the law ConfFills: the law itself, walked. No condition. -/
import Derived.Test.YtlofkjdcapbohaaGreatDoorCfI
namespace Go.Proofs.YtlofkjdcapbohaaGreatDoor.PConfKeeps
open Go.RowKit Go.Proofs.YtlofkjdcapbohaaGreatDoorW.PrintWords Go.Proofs.YtlofkjdcapbohaaGreatDoorW.PrintLast Go.Proofs.YtlofkjdcapbohaaGreatDoorW.PrintMore
set_option linter.unusedVariables false
set_option linter.unusedSimpArgs false

set_option maxHeartbeats 4000000 in
set_option maxRecDepth 100000 in
/-- Fill returns an error. -/
theorem fills_bad (k : Nat) (l : List S44) (A : Option Addr) (c : Nat) (st : Bool) (v : S25) (A4 : Option Addr) (c4 : Nat) (A5 : Option Addr) (c5 : Nat) (x : S25) (er : Int) (w : World) (hl : Kd.C k44 w A l.length l) (hc : l.length ≤ c) (hs : ∀ f ∈ l, f.f0.size ≤ maxLen) (hv : Rd w v A4 c4 A5 c5) (hf : cFill k l v = some (x, er)) (he : er ≠ 0) (hz : Fsm k x z25 = some true) :
    Calls Tryz.prog 5 #[.agg #[.slice A l.length c, .bool st], .agg #[.int .i64 v.f0, .bool v.f1, .int .i64 v.f2, .string v.f3, .slice A4 v.f4.length c4, .slice A5 v.f5.length c5]] w fun e w' => e = .returned (.bool true) ∧ Below w.heap.size w w' := by
  have hu25 := Tryz.underlying25
  have hu41 := Tryz.underlying41
  have hu44 := Tryz.underlying44
  have HL := Aside0.mk hl
  have HSZ := Aside0.mk hs
  have HV := Aside0.mk hv
  have HF := Aside0.mk hf
  have HP := Aside0.mk (Bs.nil w)
  have HMX := Aside0.mk hl.2.1
  clear hl hs hv hf
  have HZ := Aside0.mk hz
  clear hz
  go_enter Tryz.func5, Tryz.ntmps5
  go_upto_region 3 with (first | ((with_reducible refine gate_dst (N := 2) rfl ?_); refine box_event ?hg (N := 2) ?hd (cs := #[.slice A l.length c, .bool st]) (t := 41) ?hr ?_; (case hd => rfl); (case hg => rfl); (case hr => first | (go_simp; done) | (go_simp; rfl)); intro bs hg_ W1 hbox hb; have n0 := Aside0.mk (HP.out.new hg_ hbox hb); clear HP; have HP := n0; clear n0; clear hg_ hbox hb) | ((with_reducible refine gate_dst (N := 3) rfl ?_); refine box_event ?hg (N := 3) ?hd (cs := #[.int .i64 v.f0, .bool v.f1, .int .i64 v.f2, .string v.f3, .slice A4 v.f4.length c4, .slice A5 v.f5.length c5]) (t := 25) ?hr ?_; (case hd => rfl); (case hg => rfl); (case hr => first | (go_simp; done) | (go_simp; rfl)); intro bv hg_ W2 hbox hb; have n0 := Aside0.mk (HP.out.new hg_ hbox hb); clear HP; have HP := n0; clear n0; clear hg_ hbox hb) | (go_at_call 7; refine (mastkeep2_awakeConf.calls true _ rfl).mono ?_; rintro e w3 ⟨rfl, hb⟩; have n0 := Aside0.mk (HP.out.below hb); clear HP; have HP := n0; clear n0; clear hb; have ys0 : w3.cell? ⟨bs, 0, none⟩ = some (.slice A l.length c) := (blk_cell (HP.out.get 1 rfl) 0).trans rfl; have ys1 : w3.cell? ⟨bs, 1, none⟩ = some (.bool st) := (blk_cell (HP.out.get 1 rfl) 1).trans rfl; have yv0 : w3.cell? ⟨bv, 0, none⟩ = some (.int .i64 v.f0) := (blk_cell (HP.out.get 0 rfl) 0).trans rfl; have yv1 : w3.cell? ⟨bv, 1, none⟩ = some (.bool v.f1) := (blk_cell (HP.out.get 0 rfl) 1).trans rfl; have yv2 : w3.cell? ⟨bv, 2, none⟩ = some (.int .i64 v.f2) := (blk_cell (HP.out.get 0 rfl) 2).trans rfl; have yv3 : w3.cell? ⟨bv, 3, none⟩ = some (.string v.f3) := (blk_cell (HP.out.get 0 rfl) 3).trans rfl; have yv4 : w3.cell? ⟨bv, 4, none⟩ = some (.slice A4 v.f4.length c4) := (blk_cell (HP.out.get 0 rfl) 4).trans rfl; have yv5 : w3.cell? ⟨bv, 5, none⟩ = some (.slice A5 v.f5.length c5) := (blk_cell (HP.out.get 0 rfl) 5).trans rfl))
  have c1 := he
  have e1a : (er == 0) = false := beq_eq_false_iff_ne.2 c1
  have e1b : (er != 0) = true := bne_iff_ne.2 c1
  go_upto_region 4 with (first | (go_at_call 14; refine (Fill_calls k l A c st v A4 c4 A5 c5 (x, er) _ (Kd.C_below HL.out HP.out.B) hc HSZ.out (HV.out.below HP.out.B) HF.out).mono ?_; rintro e w4 ⟨E4, e4, E5, e5, rfl, hr, hb⟩; have HR := Aside0.mk hr; have n0 := Aside0.mk (HP.out.below hb); clear HP; have HP := n0; clear n0; clear hb hr) | ((with_reducible refine gate_dst (N := 5) rfl ?_); refine box_event ?hg (N := 5) ?hd (cs := #[.int .i64 0, .bool false, .int .i64 0, .string ⟨#[]⟩, .slice none 0 0, .slice none 0 0]) (t := 25) ?hr ?_; (case hd => rfl); (case hg => rfl); (case hr => first | (go_simp; done) | (go_simp; rfl)); intro bx hg_ w5 hbox hb; have n0 := Aside0.mk (HP.out.new hg_ hbox hb); have n1 := Aside0.mk (HR.out.F.bound.below hb); have n2 := Aside0.mk ((show _ = bx from hg_.symm)); clear HP HR; have HP := n0; have HR := n1; have HGE := n2; clear n0 n1 n2; clear hg_ hbox hb; have ys0 : w5.cell? ⟨bx, 0, none⟩ = some (.int .i64 0) := (blk_cell (HP.out.get 0 rfl) 0).trans rfl; have ys1 : w5.cell? ⟨bx, 1, none⟩ = some (.bool false) := (blk_cell (HP.out.get 0 rfl) 1).trans rfl; have ys2 : w5.cell? ⟨bx, 2, none⟩ = some (.int .i64 0) := (blk_cell (HP.out.get 0 rfl) 2).trans rfl; have ys3 : w5.cell? ⟨bx, 3, none⟩ = some (.string ⟨#[]⟩) := (blk_cell (HP.out.get 0 rfl) 3).trans rfl; have ys4 : w5.cell? ⟨bx, 4, none⟩ = some (.slice none 0 0) := (blk_cell (HP.out.get 0 rfl) 4).trans rfl; have ys5 : w5.cell? ⟨bx, 5, none⟩ = some (.slice none 0 0) := (blk_cell (HP.out.get 0 rfl) 5).trans rfl; have zs0 := blk_frozen (HP.out.get 0 rfl) 0; have zs1 := blk_frozen (HP.out.get 0 rfl) 1; have zs2 := blk_frozen (HP.out.get 0 rfl) 2; have zs3 := blk_frozen (HP.out.get 0 rfl) 3; have zs4 := blk_frozen (HP.out.get 0 rfl) 4; have zs5 := blk_frozen (HP.out.get 0 rfl) 5))
  have n0 := Aside0.mk (HP.out.six 0 rfl (.int .i64 x.f0) (.bool x.f1) (.int .i64 x.f2) (.string x.f3) (.slice E4 x.f4.length e4) (.slice E5 x.f5.length e5))
  have n1 := Aside0.mk ((HR.out.six (g := bx) (fun k hk => by have := hk.2; have := HGE.out; omega) (.int .i64 x.f0) (.bool x.f1) (.int .i64 x.f2) (.string x.f3) (.slice E4 x.f4.length e4) (.slice E5 x.f5.length e5)).now)
  clear HP HR
  have HP := n0
  have HR := n1
  clear n0 n1
  clear HGE ys0 zs0 ys1 zs1 ys2 zs2 ys3 zs3 ys4 zs4 ys5 zs5
  generalize ((((((w5.setCell ⟨bx, 0, none⟩ (.int .i64 x.f0)).setCell ⟨bx, 1, none⟩ (.bool x.f1)).setCell ⟨bx, 2, none⟩ (.int .i64 x.f2)).setCell ⟨bx, 3, none⟩ (.string x.f3)).setCell ⟨bx, 4, none⟩ (.slice E4 x.f4.length e4)).setCell ⟨bx, 5, none⟩ (.slice E5 x.f5.length e5)) = w6 at HP HR ⊢
  skip
  have yx0 : w6.cell? ⟨bx, 0, none⟩ = some (.int .i64 x.f0) := (blk_cell (HP.out.get 0 rfl) 0).trans rfl
  have yx1 : w6.cell? ⟨bx, 1, none⟩ = some (.bool x.f1) := (blk_cell (HP.out.get 0 rfl) 1).trans rfl
  have yx2 : w6.cell? ⟨bx, 2, none⟩ = some (.int .i64 x.f2) := (blk_cell (HP.out.get 0 rfl) 2).trans rfl
  have yx3 : w6.cell? ⟨bx, 3, none⟩ = some (.string x.f3) := (blk_cell (HP.out.get 0 rfl) 3).trans rfl
  have yx4 : w6.cell? ⟨bx, 4, none⟩ = some (.slice E4 x.f4.length e4) := (blk_cell (HP.out.get 0 rfl) 4).trans rfl
  have yx5 : w6.cell? ⟨bx, 5, none⟩ = some (.slice E5 x.f5.length e5) := (blk_cell (HP.out.get 0 rfl) 5).trans rfl
  go_wp2_with ((go_at_call 9; refine (same_calls k x E4 e4 E5 e5 z25 none 0 none 0 true _ HR.out (Rd.nil _ _ _ _ _) HZ.out).mono ?_; rintro e w7 ⟨rfl, hb⟩; have n0 := Aside0.mk (HP.out.below hb); clear HP; have HP := n0; clear n0; clear hb))
  go_ret
  exact ⟨rfl, HP.out.B⟩
set_option maxHeartbeats 4000000 in
set_option maxRecDepth 100000 in
/-- Fill returns a value. -/
theorem fills_good (k : Nat) (l : List S44) (A : Option Addr) (c : Nat) (st : Bool) (v : S25) (A4 : Option Addr) (c4 : Nat) (A5 : Option Addr) (c5 : Nat) (x : S25) (w : World) (hl : Kd.C k44 w A l.length l) (hc : l.length ≤ c) (hs : ∀ f ∈ l, f.f0.size ≤ maxLen) (hv : Rd w v A4 c4 A5 c5) (hf : cFill k l v = some (x, 0)) (hf2 : cFill k l x = some (x, 0)) (hsm : Fsm k x x = some true) (hall : ∀ f ∈ l, ∃ g, cGet k x f.f0 = some g ∧ (f.f7.f0 ≠ 0 → g.2 = 0)) :
    Calls Tryz.prog 5 #[.agg #[.slice A l.length c, .bool st], .agg #[.int .i64 v.f0, .bool v.f1, .int .i64 v.f2, .string v.f3, .slice A4 v.f4.length c4, .slice A5 v.f5.length c5]] w fun e w' => e = .returned (.bool true) ∧ Below w.heap.size w w' := by
  have hu25 := Tryz.underlying25
  have hu41 := Tryz.underlying41
  have hu44 := Tryz.underlying44
  have HL := Aside0.mk hl
  have HSZ := Aside0.mk hs
  have HV := Aside0.mk hv
  have HF := Aside0.mk hf
  have HP := Aside0.mk (Bs.nil w)
  have HMX := Aside0.mk hl.2.1
  clear hl hs hv hf
  have HF2 := Aside0.mk hf2
  have HSM := Aside0.mk hsm
  have HALL := Aside0.mk hall
  clear hf2 hsm hall
  go_enter Tryz.func5, Tryz.ntmps5
  go_upto_region 3 with (first | ((with_reducible refine gate_dst (N := 2) rfl ?_); refine box_event ?hg (N := 2) ?hd (cs := #[.slice A l.length c, .bool st]) (t := 41) ?hr ?_; (case hd => rfl); (case hg => rfl); (case hr => first | (go_simp; done) | (go_simp; rfl)); intro bs hg_ W1 hbox hb; have n0 := Aside0.mk (HP.out.new hg_ hbox hb); clear HP; have HP := n0; clear n0; clear hg_ hbox hb) | ((with_reducible refine gate_dst (N := 3) rfl ?_); refine box_event ?hg (N := 3) ?hd (cs := #[.int .i64 v.f0, .bool v.f1, .int .i64 v.f2, .string v.f3, .slice A4 v.f4.length c4, .slice A5 v.f5.length c5]) (t := 25) ?hr ?_; (case hd => rfl); (case hg => rfl); (case hr => first | (go_simp; done) | (go_simp; rfl)); intro bv hg_ W2 hbox hb; have n0 := Aside0.mk (HP.out.new hg_ hbox hb); clear HP; have HP := n0; clear n0; clear hg_ hbox hb) | (go_at_call 7; refine (mastkeep2_awakeConf.calls true _ rfl).mono ?_; rintro e w3 ⟨rfl, hb⟩; have n0 := Aside0.mk (HP.out.below hb); clear HP; have HP := n0; clear n0; clear hb; have ys0 : w3.cell? ⟨bs, 0, none⟩ = some (.slice A l.length c) := (blk_cell (HP.out.get 1 rfl) 0).trans rfl; have ys1 : w3.cell? ⟨bs, 1, none⟩ = some (.bool st) := (blk_cell (HP.out.get 1 rfl) 1).trans rfl; have yv0 : w3.cell? ⟨bv, 0, none⟩ = some (.int .i64 v.f0) := (blk_cell (HP.out.get 0 rfl) 0).trans rfl; have yv1 : w3.cell? ⟨bv, 1, none⟩ = some (.bool v.f1) := (blk_cell (HP.out.get 0 rfl) 1).trans rfl; have yv2 : w3.cell? ⟨bv, 2, none⟩ = some (.int .i64 v.f2) := (blk_cell (HP.out.get 0 rfl) 2).trans rfl; have yv3 : w3.cell? ⟨bv, 3, none⟩ = some (.string v.f3) := (blk_cell (HP.out.get 0 rfl) 3).trans rfl; have yv4 : w3.cell? ⟨bv, 4, none⟩ = some (.slice A4 v.f4.length c4) := (blk_cell (HP.out.get 0 rfl) 4).trans rfl; have yv5 : w3.cell? ⟨bv, 5, none⟩ = some (.slice A5 v.f5.length c5) := (blk_cell (HP.out.get 0 rfl) 5).trans rfl))
  go_upto_region 4 with (first | (go_at_call 14; refine (Fill_calls k l A c st v A4 c4 A5 c5 (x, 0) _ (Kd.C_below HL.out HP.out.B) hc HSZ.out (HV.out.below HP.out.B) HF.out).mono ?_; rintro e w4 ⟨E4, e4, E5, e5, rfl, hr, hb⟩; have HR := Aside0.mk hr; have n0 := Aside0.mk (HP.out.below hb); clear HP; have HP := n0; clear n0; clear hb hr) | ((with_reducible refine gate_dst (N := 5) rfl ?_); refine box_event ?hg (N := 5) ?hd (cs := #[.int .i64 0, .bool false, .int .i64 0, .string ⟨#[]⟩, .slice none 0 0, .slice none 0 0]) (t := 25) ?hr ?_; (case hd => rfl); (case hg => rfl); (case hr => first | (go_simp; done) | (go_simp; rfl)); intro bx hg_ w5 hbox hb; have n0 := Aside0.mk (HP.out.new hg_ hbox hb); have n1 := Aside0.mk (HR.out.F.bound.below hb); have n2 := Aside0.mk ((show _ = bx from hg_.symm)); clear HP HR; have HP := n0; have HR := n1; have HGE := n2; clear n0 n1 n2; clear hg_ hbox hb; have ys0 : w5.cell? ⟨bx, 0, none⟩ = some (.int .i64 0) := (blk_cell (HP.out.get 0 rfl) 0).trans rfl; have ys1 : w5.cell? ⟨bx, 1, none⟩ = some (.bool false) := (blk_cell (HP.out.get 0 rfl) 1).trans rfl; have ys2 : w5.cell? ⟨bx, 2, none⟩ = some (.int .i64 0) := (blk_cell (HP.out.get 0 rfl) 2).trans rfl; have ys3 : w5.cell? ⟨bx, 3, none⟩ = some (.string ⟨#[]⟩) := (blk_cell (HP.out.get 0 rfl) 3).trans rfl; have ys4 : w5.cell? ⟨bx, 4, none⟩ = some (.slice none 0 0) := (blk_cell (HP.out.get 0 rfl) 4).trans rfl; have ys5 : w5.cell? ⟨bx, 5, none⟩ = some (.slice none 0 0) := (blk_cell (HP.out.get 0 rfl) 5).trans rfl; have zs0 := blk_frozen (HP.out.get 0 rfl) 0; have zs1 := blk_frozen (HP.out.get 0 rfl) 1; have zs2 := blk_frozen (HP.out.get 0 rfl) 2; have zs3 := blk_frozen (HP.out.get 0 rfl) 3; have zs4 := blk_frozen (HP.out.get 0 rfl) 4; have zs5 := blk_frozen (HP.out.get 0 rfl) 5))
  have n0 := Aside0.mk (HP.out.six 0 rfl (.int .i64 x.f0) (.bool x.f1) (.int .i64 x.f2) (.string x.f3) (.slice E4 x.f4.length e4) (.slice E5 x.f5.length e5))
  have n1 := Aside0.mk ((HR.out.six (g := bx) (fun k hk => by have := hk.2; have := HGE.out; omega) (.int .i64 x.f0) (.bool x.f1) (.int .i64 x.f2) (.string x.f3) (.slice E4 x.f4.length e4) (.slice E5 x.f5.length e5)).now)
  clear HP HR
  have HP := n0
  have HR := n1
  clear n0 n1
  clear HGE ys0 zs0 ys1 zs1 ys2 zs2 ys3 zs3 ys4 zs4 ys5 zs5
  generalize ((((((w5.setCell ⟨bx, 0, none⟩ (.int .i64 x.f0)).setCell ⟨bx, 1, none⟩ (.bool x.f1)).setCell ⟨bx, 2, none⟩ (.int .i64 x.f2)).setCell ⟨bx, 3, none⟩ (.string x.f3)).setCell ⟨bx, 4, none⟩ (.slice E4 x.f4.length e4)).setCell ⟨bx, 5, none⟩ (.slice E5 x.f5.length e5)) = w6 at HP HR ⊢
  skip
  clear yv0 yv1 yv2 yv3 yv4 yv5 ys0 ys1
  have yx0 : w6.cell? ⟨bx, 0, none⟩ = some (.int .i64 x.f0) := (blk_cell (HP.out.get 0 rfl) 0).trans rfl
  have yx1 : w6.cell? ⟨bx, 1, none⟩ = some (.bool x.f1) := (blk_cell (HP.out.get 0 rfl) 1).trans rfl
  have yx2 : w6.cell? ⟨bx, 2, none⟩ = some (.int .i64 x.f2) := (blk_cell (HP.out.get 0 rfl) 2).trans rfl
  have yx3 : w6.cell? ⟨bx, 3, none⟩ = some (.string x.f3) := (blk_cell (HP.out.get 0 rfl) 3).trans rfl
  have yx4 : w6.cell? ⟨bx, 4, none⟩ = some (.slice E4 x.f4.length e4) := (blk_cell (HP.out.get 0 rfl) 4).trans rfl
  have yx5 : w6.cell? ⟨bx, 5, none⟩ = some (.slice E5 x.f5.length e5) := (blk_cell (HP.out.get 0 rfl) 5).trans rfl
  have ys0 : w6.cell? ⟨bs, 0, none⟩ = some (.slice A l.length c) := (blk_cell (HP.out.get 2 rfl) 0).trans rfl
  have ys1 : w6.cell? ⟨bs, 1, none⟩ = some (.bool st) := (blk_cell (HP.out.get 2 rfl) 1).trans rfl
  go_upto_region 7 with (first | (go_at_call 14; refine (Fill_calls k l A c st x E4 e4 E5 e5 (x, 0) _ (Kd.C_below HL.out HP.out.B) hc HSZ.out HR.out HF2.out).mono ?_; rintro e w7 ⟨J4, j4, J5, j5, rfl, hr, hb⟩; have HY := Aside0.mk hr; have n0 := Aside0.mk (HP.out.below hb); have n1 := Aside0.mk (HR.out.below hb); clear HP HR; have HP := n0; have HR := n1; clear n0 n1; clear hb hr) | ((with_reducible refine gate_dst (N := 7) rfl ?_); refine box_event ?hg (N := 7) ?hd (cs := #[.int .i64 0, .bool false, .int .i64 0, .string ⟨#[]⟩, .slice none 0 0, .slice none 0 0]) (t := 25) ?hr ?_; (case hd => rfl); (case hg => rfl); (case hr => first | (go_simp; done) | (go_simp; rfl)); intro by_ hg_ w8 hbox hb; have n0 := Aside0.mk (HP.out.new hg_ hbox hb); have n1 := Aside0.mk (HR.out.F.bound.below hb); have n2 := Aside0.mk (HY.out.F.bound.below hb); have n3 := Aside0.mk ((show _ = by_ from hg_.symm)); clear HP HR HY; have HP := n0; have HR := n1; have HY := n2; have HGE := n3; clear n0 n1 n2 n3; clear hg_ hbox hb; have yz0 : w8.cell? ⟨by_, 0, none⟩ = some (.int .i64 0) := (blk_cell (HP.out.get 0 rfl) 0).trans rfl; have yz1 : w8.cell? ⟨by_, 1, none⟩ = some (.bool false) := (blk_cell (HP.out.get 0 rfl) 1).trans rfl; have yz2 : w8.cell? ⟨by_, 2, none⟩ = some (.int .i64 0) := (blk_cell (HP.out.get 0 rfl) 2).trans rfl; have yz3 : w8.cell? ⟨by_, 3, none⟩ = some (.string ⟨#[]⟩) := (blk_cell (HP.out.get 0 rfl) 3).trans rfl; have yz4 : w8.cell? ⟨by_, 4, none⟩ = some (.slice none 0 0) := (blk_cell (HP.out.get 0 rfl) 4).trans rfl; have yz5 : w8.cell? ⟨by_, 5, none⟩ = some (.slice none 0 0) := (blk_cell (HP.out.get 0 rfl) 5).trans rfl; have zz0 := blk_frozen (HP.out.get 0 rfl) 0; have zz1 := blk_frozen (HP.out.get 0 rfl) 1; have zz2 := blk_frozen (HP.out.get 0 rfl) 2; have zz3 := blk_frozen (HP.out.get 0 rfl) 3; have zz4 := blk_frozen (HP.out.get 0 rfl) 4; have zz5 := blk_frozen (HP.out.get 0 rfl) 5))
  have n0 := Aside0.mk (HP.out.six 0 rfl (.int .i64 x.f0) (.bool x.f1) (.int .i64 x.f2) (.string x.f3) (.slice J4 x.f4.length j4) (.slice J5 x.f5.length j5))
  have n1 := Aside0.mk ((HR.out.six (g := by_) (fun k hk => by have := hk.2; have := HGE.out; omega) (.int .i64 x.f0) (.bool x.f1) (.int .i64 x.f2) (.string x.f3) (.slice J4 x.f4.length j4) (.slice J5 x.f5.length j5)).now)
  have n2 := Aside0.mk ((HY.out.six (g := by_) (fun k hk => by have := hk.2; have := HGE.out; omega) (.int .i64 x.f0) (.bool x.f1) (.int .i64 x.f2) (.string x.f3) (.slice J4 x.f4.length j4) (.slice J5 x.f5.length j5)).now)
  clear HP HR HY
  have HP := n0
  have HR := n1
  have HY := n2
  clear n0 n1 n2
  clear HGE yz0 zz0 yx0 yz1 zz1 yx1 yz2 zz2 yx2 yz3 zz3 yx3 yz4 zz4 yx4 yz5 zz5 yx5 ys0 ys1
  generalize ((((((w8.setCell ⟨by_, 0, none⟩ (.int .i64 x.f0)).setCell ⟨by_, 1, none⟩ (.bool x.f1)).setCell ⟨by_, 2, none⟩ (.int .i64 x.f2)).setCell ⟨by_, 3, none⟩ (.string x.f3)).setCell ⟨by_, 4, none⟩ (.slice J4 x.f4.length j4)).setCell ⟨by_, 5, none⟩ (.slice J5 x.f5.length j5)) = w9 at HP HR HY ⊢
  have yx0 : w9.cell? ⟨bx, 0, none⟩ = some (.int .i64 x.f0) := (blk_cell (HP.out.get 1 rfl) 0).trans rfl
  have yx1 : w9.cell? ⟨bx, 1, none⟩ = some (.bool x.f1) := (blk_cell (HP.out.get 1 rfl) 1).trans rfl
  have yx2 : w9.cell? ⟨bx, 2, none⟩ = some (.int .i64 x.f2) := (blk_cell (HP.out.get 1 rfl) 2).trans rfl
  have yx3 : w9.cell? ⟨bx, 3, none⟩ = some (.string x.f3) := (blk_cell (HP.out.get 1 rfl) 3).trans rfl
  have yx4 : w9.cell? ⟨bx, 4, none⟩ = some (.slice E4 x.f4.length e4) := (blk_cell (HP.out.get 1 rfl) 4).trans rfl
  have yx5 : w9.cell? ⟨bx, 5, none⟩ = some (.slice E5 x.f5.length e5) := (blk_cell (HP.out.get 1 rfl) 5).trans rfl
  have yy0 : w9.cell? ⟨by_, 0, none⟩ = some (.int .i64 x.f0) := (blk_cell (HP.out.get 0 rfl) 0).trans rfl
  have yy1 : w9.cell? ⟨by_, 1, none⟩ = some (.bool x.f1) := (blk_cell (HP.out.get 0 rfl) 1).trans rfl
  have yy2 : w9.cell? ⟨by_, 2, none⟩ = some (.int .i64 x.f2) := (blk_cell (HP.out.get 0 rfl) 2).trans rfl
  have yy3 : w9.cell? ⟨by_, 3, none⟩ = some (.string x.f3) := (blk_cell (HP.out.get 0 rfl) 3).trans rfl
  have yy4 : w9.cell? ⟨by_, 4, none⟩ = some (.slice J4 x.f4.length j4) := (blk_cell (HP.out.get 0 rfl) 4).trans rfl
  have yy5 : w9.cell? ⟨by_, 5, none⟩ = some (.slice J5 x.f5.length j5) := (blk_cell (HP.out.get 0 rfl) 5).trans rfl
  go_upto_region 9 with ((go_at_call 9; refine (same_calls k x E4 e4 E5 e5 x J4 j4 J5 j5 true _ HR.out HY.out HSM.out).mono ?_; rintro e wa ⟨rfl, hb⟩; have n0 := Aside0.mk (HP.out.below hb); have n1 := Aside0.mk (HR.out.below hb); clear HP HR; have HP := n0; have HR := n1; clear n0 n1; clear hb HY; have ys0 : wa.cell? ⟨bs, 0, none⟩ = some (.slice A l.length c) := (blk_cell (HP.out.get 3 rfl) 0).trans rfl; have ys1 : wa.cell? ⟨bs, 1, none⟩ = some (.bool st) := (blk_cell (HP.out.get 3 rfl) 1).trans rfl))
  clear yx0 yy0 yx1 yy1 yx2 yy2 yx3 yy3 yx4 yy4 yx5 yy5
  go_wp2_with fail
  go_loopg [42] l.length (fun kq v42 w' => ∃ (ii : Int) (i : Nat), v42 = .int .i64 ii ∧ Aside0 (ii = (i : Int)) ∧ Aside0 (i + kq = l.length) ∧ Aside0 (Rd w' x E4 e4 E5 e5) ∧ Aside0 (Bs w w' [(by_, #[.int .i64 x.f0, .bool x.f1, .int .i64 x.f2, .string x.f3, .slice J4 x.f4.length j4, .slice J5 x.f5.length j5], 25), (bx, #[.int .i64 x.f0, .bool x.f1, .int .i64 x.f2, .string x.f3, .slice E4 x.f4.length e4, .slice E5 x.f5.length e5], 25), (bv, #[.int .i64 v.f0, .bool v.f1, .int .i64 v.f2, .string v.f3, .slice A4 v.f4.length c4, .slice A5 v.f5.length c5], 25), (bs, #[.slice A l.length c, .bool st], 41)]))
  case atStart => exact ⟨0, 0, rfl, ⟨rfl⟩, ⟨by omega⟩, HR, HP⟩
  case round =>
    clear HP HR ys0 ys1
    obtain ⟨ii, i, rfl, HII, HI, HR, HP⟩ := hrel
    cases gk with
    | zero =>
      have e0 : decide (ii < (l.length : Int)) = false := decide_eq_false (by have := HII.out; have := HI.out; omega)
      go_wp2_with fail
      go_ret
      exact ⟨rfl, HP.out.B⟩
    | succ k1 =>
      have p0 : 0 ≤ ii := by have := HII.out; omega
      have p1 : ii < (l.length : Int) := by have := HII.out; have := HI.out; omega
      have q0 : decide (ii < (l.length : Int)) = true := decide_eq_true p1
      have q1 : decide (0 ≤ ii) = true := decide_eq_true p0
      obtain ⟨ad, A6, c6, A11, c11, A12, c12, e_, x0, x1, x2, x3, x4, x5, x6, x7, x8, x9, x10, x11, x12, l6, g6, g7⟩ := at_T44 HL.out ii p0 p1
      cases e_
      have hmem : rd_T44 l ii ∈ l := by rw [HII.out]; unfold rd_T44; rw [Int.toNat_natCast, List.getD_eq_getElem?_getD, List.getElem?_eq_getElem (by have := HI.out; omega)]; exact List.getElem_mem _
      obtain ⟨f, hx⟩ : ∃ f, f = rd_T44 l ii := ⟨_, rfl⟩
      rw [← hx] at hmem x0 x1 x2 x3 x4 x5 x6 x7 x8 x9 x10 x11 x12
      clear hx g6 g7 l6
      obtain ⟨⟨g, ge⟩, hg, hge⟩ := HALL.out f hmem
      have HG := Aside0.mk hg
      have HGZ := Aside0.mk hge
      clear hg hge hmem
      replace x0 := (HP.out.B.cell (World.block_lt_of_cell? w _ x0)).trans x0
      replace x1 := (HP.out.B.cell (World.block_lt_of_cell? w _ x1)).trans x1
      replace x2 := (HP.out.B.cell (World.block_lt_of_cell? w _ x2)).trans x2
      replace x3 := (HP.out.B.cell (World.block_lt_of_cell? w _ x3)).trans x3
      replace x4 := (HP.out.B.cell (World.block_lt_of_cell? w _ x4)).trans x4
      replace x5 := (HP.out.B.cell (World.block_lt_of_cell? w _ x5)).trans x5
      replace x6 := (HP.out.B.cell (World.block_lt_of_cell? w _ x6)).trans x6
      replace x7 := (HP.out.B.cell (World.block_lt_of_cell? w _ x7)).trans x7
      replace x8 := (HP.out.B.cell (World.block_lt_of_cell? w _ x8)).trans x8
      replace x9 := (HP.out.B.cell (World.block_lt_of_cell? w _ x9)).trans x9
      replace x10 := (HP.out.B.cell (World.block_lt_of_cell? w _ x10)).trans x10
      replace x11 := (HP.out.B.cell (World.block_lt_of_cell? w _ x11)).trans x11
      replace x12 := (HP.out.B.cell (World.block_lt_of_cell? w _ x12)).trans x12
      replace p0 := eq_true p0
      replace p1 := eq_true p1
      go_upto_region 12 with (((with_reducible refine gate_dst (N := 9) rfl ?_); refine box_event ?hg (N := 9) ?hd (cs := #[.string ⟨#[]⟩, .int .i64 0, .bool false, .bool false, .int .i64 0, .int .i64 0, .slice none 0 0, .int .i64 0, .bool false, .int .i64 0, .string ⟨#[]⟩, .slice none 0 0, .slice none 0 0]) (t := 44) ?hr ?_; (case hd => rfl); (case hg => rfl); (case hr => first | (go_simp; done) | (go_simp; rfl)); intro bf hg_ W3 hbox hb; have n0 := Aside0.mk (HP.out.new hg_ hbox hb); have n1 := Aside0.mk (HR.out.F.bound.below hb); have n2 := Aside0.mk ((show _ = bf from hg_.symm)); clear HP HR; have HP := n0; have HR := n1; have HGE := n2; clear n0 n1 n2; clear hg_ hbox hb; have yz0 : W3.cell? ⟨bf, 0, none⟩ = some (.string ⟨#[]⟩) := (blk_cell (HP.out.get 0 rfl) 0).trans rfl; have yz1 : W3.cell? ⟨bf, 1, none⟩ = some (.int .i64 0) := (blk_cell (HP.out.get 0 rfl) 1).trans rfl; have yz2 : W3.cell? ⟨bf, 2, none⟩ = some (.bool false) := (blk_cell (HP.out.get 0 rfl) 2).trans rfl; have yz3 : W3.cell? ⟨bf, 3, none⟩ = some (.bool false) := (blk_cell (HP.out.get 0 rfl) 3).trans rfl; have yz4 : W3.cell? ⟨bf, 4, none⟩ = some (.int .i64 0) := (blk_cell (HP.out.get 0 rfl) 4).trans rfl; have yz5 : W3.cell? ⟨bf, 5, none⟩ = some (.int .i64 0) := (blk_cell (HP.out.get 0 rfl) 5).trans rfl; have yz6 : W3.cell? ⟨bf, 6, none⟩ = some (.slice none 0 0) := (blk_cell (HP.out.get 0 rfl) 6).trans rfl; have yz7 : W3.cell? ⟨bf, 7, none⟩ = some (.int .i64 0) := (blk_cell (HP.out.get 0 rfl) 7).trans rfl; have yz8 : W3.cell? ⟨bf, 8, none⟩ = some (.bool false) := (blk_cell (HP.out.get 0 rfl) 8).trans rfl; have yz9 : W3.cell? ⟨bf, 9, none⟩ = some (.int .i64 0) := (blk_cell (HP.out.get 0 rfl) 9).trans rfl; have yz10 : W3.cell? ⟨bf, 10, none⟩ = some (.string ⟨#[]⟩) := (blk_cell (HP.out.get 0 rfl) 10).trans rfl; have yz11 : W3.cell? ⟨bf, 11, none⟩ = some (.slice none 0 0) := (blk_cell (HP.out.get 0 rfl) 11).trans rfl; have yz12 : W3.cell? ⟨bf, 12, none⟩ = some (.slice none 0 0) := (blk_cell (HP.out.get 0 rfl) 12).trans rfl; have zz0 := blk_frozen (HP.out.get 0 rfl) 0; have zz1 := blk_frozen (HP.out.get 0 rfl) 1; have zz2 := blk_frozen (HP.out.get 0 rfl) 2; have zz3 := blk_frozen (HP.out.get 0 rfl) 3; have zz4 := blk_frozen (HP.out.get 0 rfl) 4; have zz5 := blk_frozen (HP.out.get 0 rfl) 5; have zz6 := blk_frozen (HP.out.get 0 rfl) 6; have zz7 := blk_frozen (HP.out.get 0 rfl) 7; have zz8 := blk_frozen (HP.out.get 0 rfl) 8; have zz9 := blk_frozen (HP.out.get 0 rfl) 9; have zz10 := blk_frozen (HP.out.get 0 rfl) 10; have zz11 := blk_frozen (HP.out.get 0 rfl) 11; have zz12 := blk_frozen (HP.out.get 0 rfl) 12))
      have n0 := Aside0.mk (HP.out.thirteen 0 rfl (.string f.f0) (.int .i64 f.f1) (.bool f.f2) (.bool f.f3) (.int .i64 f.f4) (.int .i64 f.f5) (.slice A6 f.f6.length c6) (.int .i64 f.f7.f0) (.bool f.f7.f1) (.int .i64 f.f7.f2) (.string f.f7.f3) (.slice A11 f.f7.f4.length c11) (.slice A12 f.f7.f5.length c12))
      have n1 := Aside0.mk ((HR.out.step (fun k hk hlt => th_same (g := bf) (k := k) (by have := hk.2; have := HGE.out; omega) (.string f.f0) (.int .i64 f.f1) (.bool f.f2) (.bool f.f3) (.int .i64 f.f4) (.int .i64 f.f5) (.slice A6 f.f6.length c6) (.int .i64 f.f7.f0) (.bool f.f7.f1) (.int .i64 f.f7.f2) (.string f.f7.f3) (.slice A11 f.f7.f4.length c11) (.slice A12 f.f7.f5.length c12))).now)
      clear HP HR
      have HP := n0
      have HR := n1
      clear n0 n1
      clear HGE yz0 zz0 x0 yz1 zz1 x1 yz2 zz2 x2 yz3 zz3 x3 yz4 zz4 x4 yz5 zz5 x5 yz6 zz6 x6 yz7 zz7 x7 yz8 zz8 x8 yz9 zz9 x9 yz10 zz10 x10 yz11 zz11 x11 yz12 zz12 x12
      generalize (((((((((((((W3.setCell ⟨bf, 0, none⟩ (.string f.f0)).setCell ⟨bf, 1, none⟩ (.int .i64 f.f1)).setCell ⟨bf, 2, none⟩ (.bool f.f2)).setCell ⟨bf, 3, none⟩ (.bool f.f3)).setCell ⟨bf, 4, none⟩ (.int .i64 f.f4)).setCell ⟨bf, 5, none⟩ (.int .i64 f.f5)).setCell ⟨bf, 6, none⟩ (.slice A6 f.f6.length c6)).setCell ⟨bf, 7, none⟩ (.int .i64 f.f7.f0)).setCell ⟨bf, 8, none⟩ (.bool f.f7.f1)).setCell ⟨bf, 9, none⟩ (.int .i64 f.f7.f2)).setCell ⟨bf, 10, none⟩ (.string f.f7.f3)).setCell ⟨bf, 11, none⟩ (.slice A11 f.f7.f4.length c11)).setCell ⟨bf, 12, none⟩ (.slice A12 f.f7.f5.length c12)) = W4 at HP HR ⊢
      have yf0 : W4.cell? ⟨bf, 0, none⟩ = some (.string f.f0) := (blk_cell (HP.out.get 0 rfl) 0).trans rfl
      have yx0 : W4.cell? ⟨bx, 0, none⟩ = some (.int .i64 x.f0) := (blk_cell (HP.out.get 2 rfl) 0).trans rfl
      have yx1 : W4.cell? ⟨bx, 1, none⟩ = some (.bool x.f1) := (blk_cell (HP.out.get 2 rfl) 1).trans rfl
      have yx2 : W4.cell? ⟨bx, 2, none⟩ = some (.int .i64 x.f2) := (blk_cell (HP.out.get 2 rfl) 2).trans rfl
      have yx3 : W4.cell? ⟨bx, 3, none⟩ = some (.string x.f3) := (blk_cell (HP.out.get 2 rfl) 3).trans rfl
      have yx4 : W4.cell? ⟨bx, 4, none⟩ = some (.slice E4 x.f4.length e4) := (blk_cell (HP.out.get 2 rfl) 4).trans rfl
      have yx5 : W4.cell? ⟨bx, 5, none⟩ = some (.slice E5 x.f5.length e5) := (blk_cell (HP.out.get 2 rfl) 5).trans rfl
      go_upto_region 13 with (first | (go_at_call 10; refine (Get_calls k x E4 e4 E5 e5 f.f0 (g, ge) _ HR.out HG.out).mono ?_; rintro e w7 ⟨G4, g4, G5, g5, rfl, hr, hb⟩; have n0 := Aside0.mk (HP.out.below hb); have n1 := Aside0.mk (HR.out.below hb); clear HP HR; have HP := n0; have HR := n1; clear n0 n1; clear hb hr) | ((with_reducible refine gate_dst (N := 10) rfl ?_); refine box_event ?hg (N := 10) ?hd (cs := #[.int .i64 0, .bool false, .int .i64 0, .string ⟨#[]⟩, .slice none 0 0, .slice none 0 0]) (t := 25) ?hr ?_; (case hd => rfl); (case hg => rfl); (case hr => first | (go_simp; done) | (go_simp; rfl)); intro bg hg_ w8 hbox hb; have n0 := Aside0.mk (HP.out.new hg_ hbox hb); have n1 := Aside0.mk (HR.out.F.bound.below hb); have n2 := Aside0.mk ((show _ = bg from hg_.symm)); clear HP HR; have HP := n0; have HR := n1; have HGE := n2; clear n0 n1 n2; clear hg_ hbox hb; have yg0 : w8.cell? ⟨bg, 0, none⟩ = some (.int .i64 0) := (blk_cell (HP.out.get 0 rfl) 0).trans rfl; have yg1 : w8.cell? ⟨bg, 1, none⟩ = some (.bool false) := (blk_cell (HP.out.get 0 rfl) 1).trans rfl; have yg2 : w8.cell? ⟨bg, 2, none⟩ = some (.int .i64 0) := (blk_cell (HP.out.get 0 rfl) 2).trans rfl; have yg3 : w8.cell? ⟨bg, 3, none⟩ = some (.string ⟨#[]⟩) := (blk_cell (HP.out.get 0 rfl) 3).trans rfl; have yg4 : w8.cell? ⟨bg, 4, none⟩ = some (.slice none 0 0) := (blk_cell (HP.out.get 0 rfl) 4).trans rfl; have yg5 : w8.cell? ⟨bg, 5, none⟩ = some (.slice none 0 0) := (blk_cell (HP.out.get 0 rfl) 5).trans rfl; have zg0 := blk_frozen (HP.out.get 0 rfl) 0; have zg1 := blk_frozen (HP.out.get 0 rfl) 1; have zg2 := blk_frozen (HP.out.get 0 rfl) 2; have zg3 := blk_frozen (HP.out.get 0 rfl) 3; have zg4 := blk_frozen (HP.out.get 0 rfl) 4; have zg5 := blk_frozen (HP.out.get 0 rfl) 5))
      have n0 := Aside0.mk (HP.out.six 0 rfl (.int .i64 g.f0) (.bool g.f1) (.int .i64 g.f2) (.string g.f3) (.slice G4 g.f4.length g4) (.slice G5 g.f5.length g5))
      have n1 := Aside0.mk ((HR.out.six (g := bg) (fun k hk => by have := hk.2; have := HGE.out; omega) (.int .i64 g.f0) (.bool g.f1) (.int .i64 g.f2) (.string g.f3) (.slice G4 g.f4.length g4) (.slice G5 g.f5.length g5)).now)
      clear HP HR
      have HP := n0
      have HR := n1
      clear n0 n1
      clear HGE yf0 yg0 zg0 yx0 yg1 zg1 yx1 yg2 zg2 yx2 yg3 zg3 yx3 yg4 zg4 yx4 yg5 zg5 yx5
      generalize ((((((w8.setCell ⟨bg, 0, none⟩ (.int .i64 g.f0)).setCell ⟨bg, 1, none⟩ (.bool g.f1)).setCell ⟨bg, 2, none⟩ (.int .i64 g.f2)).setCell ⟨bg, 3, none⟩ (.string g.f3)).setCell ⟨bg, 4, none⟩ (.slice G4 g.f4.length g4)).setCell ⟨bg, 5, none⟩ (.slice G5 g.f5.length g5)) = w9 at HP HR ⊢
      have yf7 : w9.cell? ⟨bf, 7, none⟩ = some (.int .i64 f.f7.f0) := (blk_cell (HP.out.get 1 rfl) 7).trans rfl
      by_cases c3 : f.f7.f0 = 0
      case pos =>
        have e3a : (f.f7.f0 == 0) = true := beq_iff_eq.2 c3
        have e3b : (f.f7.f0 != 0) = false := bne_eq_false_iff_eq.2 c3
        replace c3 := Aside0.mk c3
        go_wp2_with fail
        go_roundg k1
        case measure => omega
        case rel => exact ⟨_, i + 1, rfl, ⟨by have h1_ := HMX.out; have h2_ := HII.out; have h3_ := HI.out; unfold wrap64; omega⟩, ⟨by have := HI.out; omega⟩, HR, ⟨HP.out.tail.tail⟩⟩
      have c4 : ge = 0 := HGZ.out c3
      subst c4
      have e3a : (f.f7.f0 == 0) = false := beq_eq_false_iff_ne.2 c3
      have e3b : (f.f7.f0 != 0) = true := bne_iff_ne.2 c3
      replace c3 := Aside0.mk c3
      go_wp2_with fail
      go_roundg k1
      case measure => omega
      case rel => exact ⟨_, i + 1, rfl, ⟨by have h1_ := HMX.out; have h2_ := HII.out; have h3_ := HI.out; unfold wrap64; omega⟩, ⟨by have := HI.out; omega⟩, HR, ⟨HP.out.tail.tail⟩⟩
end Go.Proofs.YtlofkjdcapbohaaGreatDoor.PConfKeeps
