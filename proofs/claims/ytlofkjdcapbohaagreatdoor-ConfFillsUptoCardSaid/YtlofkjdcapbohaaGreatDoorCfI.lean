/- For the laws of conf on schemas: Fill, walked. No condition. -/
import Derived.Test.YtlofkjdcapbohaaGreatDoorCfH
namespace Go.Proofs.YtlofkjdcapbohaaGreatDoor.PConfKeeps
open Go.RowKit Go.Proofs.YtlofkjdcapbohaaGreatDoorW.PrintWords Go.Proofs.YtlofkjdcapbohaaGreatDoorW.PrintLast Go.Proofs.YtlofkjdcapbohaaGreatDoorW.PrintMore
set_option linter.unusedVariables false
set_option linter.unusedSimpArgs false

def fillF (k : Nat) (l : List S44) : Nat → Nat → S25 → Option (S25 × Int)
  | 0, _, v => (Fcl k v).bind fun c => some (c, 0)
  | n + 1, i, v => (conf_steps.f k (rd_T44 l (i : Int)).f0 true).bind fun st => if (rd_T44 l (i : Int)).f7.f0 = 0 then fillF k l n (i + 1) v else (cget st.1 v).bind fun g => if g.2 = true then fillF k l n (i + 1) v else
    (cSet k v (rd_T44 l (i : Int)).f0 (rd_T44 l (i : Int)).f7).bind fun s => if s.2 = 0 then fillF k l n (i + 1) s.1 else some (z25, s.2)
def cFill (k : Nat) (l : List S44) (v : S25) : Option (S25 × Int) := (cCS k l).bind fun e => if e = 0 then (Fck k v).bind fun e => if e = 0 then fillF k l l.length 0 v else some (z25, e) else some (z25, e)
set_option maxHeartbeats 2000000 in
set_option maxRecDepth 100000 in
theorem Fill_calls (k : Nat) (l : List S44) (A : Option Addr) (c : Nat) (st : Bool) (v : S25) (A4 : Option Addr) (c4 : Nat) (A5 : Option Addr) (c5 : Nat) (r : S25 × Int) (w : World) (hl : Kd.C k44 w A l.length l) (hc : l.length ≤ c) (hs : ∀ x ∈ l, x.f0.size ≤ maxLen) (hv : Rd w v A4 c4 A5 c5) (h : cFill k l v = some r) :
    Calls Tryz.prog 14 #[.agg #[.slice A l.length c, .bool st], .agg #[.int .i64 v.f0, .bool v.f1, .int .i64 v.f2, .string v.f3, .slice A4 v.f4.length c4, .slice A5 v.f5.length c5]] w fun e w' => ∃ E4 e4 E5 e5, e = .returned (.tuple #[.agg #[.int .i64 r.1.f0, .bool r.1.f1, .int .i64 r.1.f2, .string r.1.f3, .slice E4 r.1.f4.length e4, .slice E5 r.1.f5.length e5], .int .i64 r.2]) ∧ Rd w' r.1 E4 e4 E5 e5 ∧ Below w.heap.size w w' := by
  have hu44 := Tryz.underlying44
  have hu41 := Tryz.underlying41
  have hu25 := Tryz.underlying25
  have HL := Aside0.mk hl
  have HSZ := Aside0.mk hs
  have HV := Aside0.mk hv
  have HP := Aside0.mk (Bs.nil w)
  have HMX := Aside0.mk hl.2.1
  unfold cFill at h
  obtain ⟨e1, hcs, h⟩ := Option.bind_eq_some_iff.1 h
  have HCS := Aside0.mk hcs
  have H := Aside0.mk h
  clear hl hs hv h hcs
  go_enter Tryz.func14, Tryz.ntmps14
  go_upto_region 1 with (first | ((with_reducible refine gate_dst (N := 2) rfl ?_); refine box_event ?hg (N := 2) ?hd (cs := #[.slice A l.length c, .bool st]) (t := 41) ?hr ?_; (case hd => rfl); (case hg => rfl); (case hr => first | (go_simp; done) | (go_simp; rfl)); intro bs hg_ W1 hbox hb; have n0 := Aside0.mk (HP.out.new hg_ hbox hb); clear HP; have HP := n0; clear n0; clear hg_ hbox hb) | ((with_reducible refine gate_dst (N := 3) rfl ?_); refine box_event ?hg (N := 3) ?hd (cs := #[.int .i64 v.f0, .bool v.f1, .int .i64 v.f2, .string v.f3, .slice A4 v.f4.length c4, .slice A5 v.f5.length c5]) (t := 25) ?hr ?_; (case hd => rfl); (case hg => rfl); (case hr => first | (go_simp; done) | (go_simp; rfl)); intro bv hg_ W2 hbox hb; have n0 := Aside0.mk (HP.out.new hg_ hbox hb); clear HP; have HP := n0; clear n0; clear hg_ hbox hb) | ((with_reducible refine gate_dst (N := 4) rfl ?_); refine box_event ?hg (N := 4) ?hd (cs := #[.int .i64 0, .bool false, .int .i64 0, .string ⟨#[]⟩, .slice none 0 0, .slice none 0 0]) (t := 25) ?hr ?_; (case hd => rfl); (case hg => rfl); (case hr => first | (go_simp; done) | (go_simp; rfl)); intro br hg_ W3 hbox hb; have n0 := Aside0.mk (HP.out.new hg_ hbox hb); clear HP; have HP := n0; clear n0; clear hg_ hbox hb))
  have ys0 : W3.cell? ⟨bs, 0, none⟩ = some (.slice A l.length c) := (blk_cell (HP.out.get 2 rfl) 0).trans rfl
  have ys1 : W3.cell? ⟨bs, 1, none⟩ = some (.bool st) := (blk_cell (HP.out.get 2 rfl) 1).trans rfl
  have H1 := H.out
  clear H
  by_cases c1 : e1 = 0
  case neg =>
    rw [if_neg c1] at H1
    injection H1 with H1
    subst H1
    have e1a : (e1 == 0) = false := beq_eq_false_iff_ne.2 c1
    have e1b : (e1 != 0) = true := bne_iff_ne.2 c1
    go_wp2_with (go_at_call 28; refine (cs_calls k l A c st e1 _ (Kd.C_below HL.out HP.out.B) hc HSZ.out HCS.out).mono ?_; rintro e w5 ⟨rfl, hb⟩; have n0 := Aside0.mk (HP.out.below hb); clear HP; have HP := n0; clear n0; clear hb; have yr0 : w5.cell? ⟨br, 0, none⟩ = some (.int .i64 0) := (blk_cell (HP.out.get 0 rfl) 0).trans rfl; have yr1 : w5.cell? ⟨br, 1, none⟩ = some (.bool false) := (blk_cell (HP.out.get 0 rfl) 1).trans rfl; have yr2 : w5.cell? ⟨br, 2, none⟩ = some (.int .i64 0) := (blk_cell (HP.out.get 0 rfl) 2).trans rfl; have yr3 : w5.cell? ⟨br, 3, none⟩ = some (.string ⟨#[]⟩) := (blk_cell (HP.out.get 0 rfl) 3).trans rfl; have yr4 : w5.cell? ⟨br, 4, none⟩ = some (.slice none 0 0) := (blk_cell (HP.out.get 0 rfl) 4).trans rfl; have yr5 : w5.cell? ⟨br, 5, none⟩ = some (.slice none 0 0) := (blk_cell (HP.out.get 0 rfl) 5).trans rfl; have zr0 := blk_frozen (HP.out.get 0 rfl) 0; have zr1 := blk_frozen (HP.out.get 0 rfl) 1; have zr2 := blk_frozen (HP.out.get 0 rfl) 2; have zr3 := blk_frozen (HP.out.get 0 rfl) 3; have zr4 := blk_frozen (HP.out.get 0 rfl) 4; have zr5 := blk_frozen (HP.out.get 0 rfl) 5)
    refine bodyPost_ret (results_ct rfl _ _ br 25 #[.int .i64 0, .bool false, .int .i64 0, .string ⟨#[]⟩, .slice none 0 0, .slice none 0 0] (0, 0) _ rfl (put6 (HP.out.get 0 rfl) _ _ _ _ _ _) Tryz.underlying25 rfl (by kernel_rfl)) rfl ?_
    exact ⟨none, 0, none, 0, rfl, Rd.nil _ _ _ _ _, put6_below HP.out.B (HP.out.low 0 rfl) _ _ _ _ _ _⟩
  rw [if_pos c1] at H1
  have e1a : (e1 == 0) = true := beq_iff_eq.2 c1
  have e1b : (e1 != 0) = false := bne_eq_false_iff_eq.2 c1
  obtain ⟨e2, hck, H1⟩ := Option.bind_eq_some_iff.1 H1
  have HC := Aside0.mk hck
  clear hck
  go_upto_region 4 with (go_at_call 28; refine (cs_calls k l A c st e1 _ (Kd.C_below HL.out HP.out.B) hc HSZ.out HCS.out).mono ?_; rintro e w5 ⟨rfl, hb⟩; have n0 := Aside0.mk (HP.out.below hb); clear HP; have HP := n0; clear n0; clear hb; have yv0 : w5.cell? ⟨bv, 0, none⟩ = some (.int .i64 v.f0) := (blk_cell (HP.out.get 1 rfl) 0).trans rfl; have yv1 : w5.cell? ⟨bv, 1, none⟩ = some (.bool v.f1) := (blk_cell (HP.out.get 1 rfl) 1).trans rfl; have yv2 : w5.cell? ⟨bv, 2, none⟩ = some (.int .i64 v.f2) := (blk_cell (HP.out.get 1 rfl) 2).trans rfl; have yv3 : w5.cell? ⟨bv, 3, none⟩ = some (.string v.f3) := (blk_cell (HP.out.get 1 rfl) 3).trans rfl; have yv4 : w5.cell? ⟨bv, 4, none⟩ = some (.slice A4 v.f4.length c4) := (blk_cell (HP.out.get 1 rfl) 4).trans rfl; have yv5 : w5.cell? ⟨bv, 5, none⟩ = some (.slice A5 v.f5.length c5) := (blk_cell (HP.out.get 1 rfl) 5).trans rfl)
  clear ys0 ys1
  by_cases c2 : e2 = 0
  case neg =>
    rw [if_neg c2] at H1
    injection H1 with H1
    subst H1
    have e2a : (e2 == 0) = false := beq_eq_false_iff_ne.2 c2
    have e2b : (e2 != 0) = true := bne_iff_ne.2 c2
    go_wp2_with (go_at_call 18; refine (check_calls k v A4 c4 A5 c5 e2 _ (HV.out.below HP.out.B) HC.out).mono ?_; rintro e w6 ⟨rfl, hb⟩; have n0 := Aside0.mk (HP.out.below hb); clear HP; have HP := n0; clear n0; clear hb; have yr0 : w6.cell? ⟨br, 0, none⟩ = some (.int .i64 0) := (blk_cell (HP.out.get 0 rfl) 0).trans rfl; have yr1 : w6.cell? ⟨br, 1, none⟩ = some (.bool false) := (blk_cell (HP.out.get 0 rfl) 1).trans rfl; have yr2 : w6.cell? ⟨br, 2, none⟩ = some (.int .i64 0) := (blk_cell (HP.out.get 0 rfl) 2).trans rfl; have yr3 : w6.cell? ⟨br, 3, none⟩ = some (.string ⟨#[]⟩) := (blk_cell (HP.out.get 0 rfl) 3).trans rfl; have yr4 : w6.cell? ⟨br, 4, none⟩ = some (.slice none 0 0) := (blk_cell (HP.out.get 0 rfl) 4).trans rfl; have yr5 : w6.cell? ⟨br, 5, none⟩ = some (.slice none 0 0) := (blk_cell (HP.out.get 0 rfl) 5).trans rfl; have zr0 := blk_frozen (HP.out.get 0 rfl) 0; have zr1 := blk_frozen (HP.out.get 0 rfl) 1; have zr2 := blk_frozen (HP.out.get 0 rfl) 2; have zr3 := blk_frozen (HP.out.get 0 rfl) 3; have zr4 := blk_frozen (HP.out.get 0 rfl) 4; have zr5 := blk_frozen (HP.out.get 0 rfl) 5)
    refine bodyPost_ret (results_ct rfl _ _ br 25 #[.int .i64 0, .bool false, .int .i64 0, .string ⟨#[]⟩, .slice none 0 0, .slice none 0 0] (0, 0) _ rfl (put6 (HP.out.get 0 rfl) _ _ _ _ _ _) Tryz.underlying25 rfl (by kernel_rfl)) rfl ?_
    exact ⟨none, 0, none, 0, rfl, Rd.nil _ _ _ _ _, put6_below HP.out.B (HP.out.low 0 rfl) _ _ _ _ _ _⟩
  rw [if_pos c2] at H1
  have e2a : (e2 == 0) = true := beq_iff_eq.2 c2
  have e2b : (e2 != 0) = false := bne_eq_false_iff_eq.2 c2
  have H := Aside0.mk H1
  clear H1
  go_upto_region 7 with (go_at_call 18; refine (check_calls k v A4 c4 A5 c5 e2 _ (HV.out.below HP.out.B) HC.out).mono ?_; rintro e w6 ⟨rfl, hb⟩; have n0 := Aside0.mk (HP.out.below hb); clear HP; have HP := n0; clear n0; clear hb; have ys0 : w6.cell? ⟨bs, 0, none⟩ = some (.slice A l.length c) := (blk_cell (HP.out.get 2 rfl) 0).trans rfl; have ys1 : w6.cell? ⟨bs, 1, none⟩ = some (.bool st) := (blk_cell (HP.out.get 2 rfl) 1).trans rfl)
  clear yv0 yv1 yv2 yv3 yv4 yv5
  go_wp2_with fail
  have LBV := Aside0.mk (show bv < br from HP.out.nd 0 1 _ _ (by omega) rfl rfl)
  have LBS := Aside0.mk (show bs < bv from HP.out.nd 1 2 _ _ (by omega) rfl rfl)
  have GBS := Aside0.mk (HP.out.low 2 rfl)
  go_loopg [31] l.length (fun kq v31 w' => ∃ (ii : Int) (i : Nat) (cur : S25) (F4 : Option Addr) (f4 : Nat) (F5 : Option Addr) (f5 : Nat), v31 = .int .i64 ii ∧ Aside0 (ii = (i : Int)) ∧ Aside0 (i + kq = l.length) ∧ Aside0 (fillF k l kq i cur = some r) ∧ Aside0 (RdF w' (fun k => k < w.heap.size ∨ br < k) cur F4 f4 F5 f5) ∧ Aside0 (Bs w w' [(br, #[.int .i64 0, .bool false, .int .i64 0, .string ⟨#[]⟩, .slice none 0 0, .slice none 0 0], 25), (bv, #[.int .i64 cur.f0, .bool cur.f1, .int .i64 cur.f2, .string cur.f3, .slice F4 cur.f4.length f4, .slice F5 cur.f5.length f5], 25), (bs, #[.slice A l.length c, .bool st], 41)]))
  case atStart => exact ⟨0, 0, v, A4, c4, A5, c5, rfl, ⟨rfl⟩, ⟨by omega⟩, H, ⟨(HV.out.F.below HP.out.B).mono (fun _ h_ => .inl h_)⟩, HP⟩
  case round =>
    clear HP HV H ys0 ys1
    obtain ⟨ii, i, cur, F4, f4, F5, f5, rfl, HII, HI, H, HR, HP⟩ := hrel
    cases gk with
    | zero =>
      have e0 : decide (ii < (l.length : Int)) = false := decide_eq_false (by have := HII.out; have := HI.out; omega)
      have H1 := H.out
      rw [fillF] at H1
      obtain ⟨cl, hcl, H1⟩ := Option.bind_eq_some_iff.1 H1
      injection H1 with H1
      subst H1
      have HCL := Aside0.mk hcl
      clear hcl
      have yh0 : wr.cell? ⟨bv, 0, none⟩ = some (.int .i64 cur.f0) := (blk_cell (HP.out.get 1 rfl) 0).trans rfl
      have yh1 : wr.cell? ⟨bv, 1, none⟩ = some (.bool cur.f1) := (blk_cell (HP.out.get 1 rfl) 1).trans rfl
      have yh2 : wr.cell? ⟨bv, 2, none⟩ = some (.int .i64 cur.f2) := (blk_cell (HP.out.get 1 rfl) 2).trans rfl
      have yh3 : wr.cell? ⟨bv, 3, none⟩ = some (.string cur.f3) := (blk_cell (HP.out.get 1 rfl) 3).trans rfl
      have yh4 : wr.cell? ⟨bv, 4, none⟩ = some (.slice F4 cur.f4.length f4) := (blk_cell (HP.out.get 1 rfl) 4).trans rfl
      have yh5 : wr.cell? ⟨bv, 5, none⟩ = some (.slice F5 cur.f5.length f5) := (blk_cell (HP.out.get 1 rfl) 5).trans rfl
      go_wp2_with (go_at_call 21; refine (clone_calls k cur F4 f4 F5 f5 cl _ HR.out.now HCL.out).mono ?_; rintro e wa ⟨J4, j4, J5, j5, rfl, hr, hb⟩; have LT := Aside0.mk (HP.out.lt 0 rfl); have n0 := Aside0.mk (HP.out.below hb); clear HP; have HP := n0; clear n0; have HR2 := Aside0.mk hr; clear hb hr; have yr0 : wa.cell? ⟨br, 0, none⟩ = some (.int .i64 0) := (blk_cell (HP.out.get 0 rfl) 0).trans rfl; have yr1 : wa.cell? ⟨br, 1, none⟩ = some (.bool false) := (blk_cell (HP.out.get 0 rfl) 1).trans rfl; have yr2 : wa.cell? ⟨br, 2, none⟩ = some (.int .i64 0) := (blk_cell (HP.out.get 0 rfl) 2).trans rfl; have yr3 : wa.cell? ⟨br, 3, none⟩ = some (.string ⟨#[]⟩) := (blk_cell (HP.out.get 0 rfl) 3).trans rfl; have yr4 : wa.cell? ⟨br, 4, none⟩ = some (.slice none 0 0) := (blk_cell (HP.out.get 0 rfl) 4).trans rfl; have yr5 : wa.cell? ⟨br, 5, none⟩ = some (.slice none 0 0) := (blk_cell (HP.out.get 0 rfl) 5).trans rfl; have zr0 := blk_frozen (HP.out.get 0 rfl) 0; have zr1 := blk_frozen (HP.out.get 0 rfl) 1; have zr2 := blk_frozen (HP.out.get 0 rfl) 2; have zr3 := blk_frozen (HP.out.get 0 rfl) 3; have zr4 := blk_frozen (HP.out.get 0 rfl) 4; have zr5 := blk_frozen (HP.out.get 0 rfl) 5)
      refine bodyPost_ret (results_ct rfl _ _ br 25 #[.int .i64 cl.f0, .bool cl.f1, .int .i64 cl.f2, .string cl.f3, .slice J4 cl.f4.length j4, .slice J5 cl.f5.length j5] (0, 0) _ rfl (put6 (HP.out.get 0 rfl) _ _ _ _ _ _) Tryz.underlying25 rfl (by kernel_rfl)) rfl ?_
      exact ⟨J4, j4, J5, j5, rfl, (HR2.out.six (g := br) (fun k hk => by have := LT.out; omega) (.int .i64 cl.f0) (.bool cl.f1) (.int .i64 cl.f2) (.string cl.f3) (.slice J4 cl.f4.length j4) (.slice J5 cl.f5.length j5)).now, put6_below HP.out.B (HP.out.low 0 rfl) _ _ _ _ _ _⟩
    | succ k1 =>
      have H1 := H.out
      clear H
      rw [fillF, ← HII.out] at H1
      have p0 : 0 ≤ ii := by have := HII.out; omega
      have p1 : ii < (l.length : Int) := by have := HII.out; have := HI.out; omega
      have q0 : decide (ii < (l.length : Int)) = true := decide_eq_true p1
      have q1 : decide (0 ≤ ii) = true := decide_eq_true p0
      obtain ⟨ad, A6, c6, A11, c11, A12, c12, e_, x0, x1, x2, x3, x4, x5, x6, x7, x8, x9, x10, x11, x12, l6, g6, g7⟩ := at_T44 HL.out ii p0 p1
      cases e_
      obtain ⟨x, hx⟩ : ∃ x, x = rd_T44 l ii := ⟨_, rfl⟩
      rw [← hx] at x0 x1 x2 x3 x4 x5 x6 x7 x8 x9 x10 x11 x12 g7 H1
      clear hx g6 l6
      have G7 := Aside0.mk g7
      clear g7
      obtain ⟨⟨sl, sok⟩, hst, H1⟩ := Option.bind_eq_some_iff.1 H1
      have HST := Aside0.mk hst
      clear hst
      replace x0 := (HP.out.B.cell (World.block_lt_of_cell? w _ x0)).trans x0
      replace x1 := (HP.out.B.cell (World.block_lt_of_cell? w _ x1)).trans x1
      replace x2 := (HP.out.B.cell (World.block_lt_of_cell? w _ x2)).trans x2
      replace x3 := (HP.out.B.cell (World.block_lt_of_cell? w _ x3)).trans x3
      replace x4 := (HP.out.B.cell (World.block_lt_of_cell? w _ x4)).trans x4
      replace x5 := (HP.out.B.cell (World.block_lt_of_cell? w _ x5)).trans x5
      replace x6 := (HP.out.B.cell (World.block_lt_of_cell? w _ x6)).trans x6
      replace x7 := (HP.out.B.cell (World.block_lt_of_cell? w _ x7)).trans x7
      replace x8 := (HP.out.B.cell (World.block_lt_of_cell? w _ x8)).trans x8
      replace x9 := (HP.out.B.cell (World.block_lt_of_cell? w _ x9)).trans x9
      replace x10 := (HP.out.B.cell (World.block_lt_of_cell? w _ x10)).trans x10
      replace x11 := (HP.out.B.cell (World.block_lt_of_cell? w _ x11)).trans x11
      replace x12 := (HP.out.B.cell (World.block_lt_of_cell? w _ x12)).trans x12
      replace p0 := eq_true p0
      replace p1 := eq_true p1
      go_upto_region 10 with (((with_reducible refine gate_dst (N := 9) rfl ?_); refine box_event ?hg (N := 9) ?hd (cs := #[.string ⟨#[]⟩, .int .i64 0, .bool false, .bool false, .int .i64 0, .int .i64 0, .slice none 0 0, .int .i64 0, .bool false, .int .i64 0, .string ⟨#[]⟩, .slice none 0 0, .slice none 0 0]) (t := 44) ?hr ?_; (case hd => rfl); (case hg => rfl); (case hr => first | (go_simp; done) | (go_simp; rfl)); intro bf hg_ W3 hbox hb; have n0 := Aside0.mk (HP.out.new hg_ hbox hb); have n1 := Aside0.mk (HR.out.bound.below hb); have n2 := Aside0.mk ((show _ = bf from hg_.symm)); clear HP HR; have HP := n0; have HR := n1; have HGE := n2; clear n0 n1 n2; clear hg_ hbox hb; have yz0 : W3.cell? ⟨bf, 0, none⟩ = some (.string ⟨#[]⟩) := (blk_cell (HP.out.get 0 rfl) 0).trans rfl; have yz1 : W3.cell? ⟨bf, 1, none⟩ = some (.int .i64 0) := (blk_cell (HP.out.get 0 rfl) 1).trans rfl; have yz2 : W3.cell? ⟨bf, 2, none⟩ = some (.bool false) := (blk_cell (HP.out.get 0 rfl) 2).trans rfl; have yz3 : W3.cell? ⟨bf, 3, none⟩ = some (.bool false) := (blk_cell (HP.out.get 0 rfl) 3).trans rfl; have yz4 : W3.cell? ⟨bf, 4, none⟩ = some (.int .i64 0) := (blk_cell (HP.out.get 0 rfl) 4).trans rfl; have yz5 : W3.cell? ⟨bf, 5, none⟩ = some (.int .i64 0) := (blk_cell (HP.out.get 0 rfl) 5).trans rfl; have yz6 : W3.cell? ⟨bf, 6, none⟩ = some (.slice none 0 0) := (blk_cell (HP.out.get 0 rfl) 6).trans rfl; have yz7 : W3.cell? ⟨bf, 7, none⟩ = some (.int .i64 0) := (blk_cell (HP.out.get 0 rfl) 7).trans rfl; have yz8 : W3.cell? ⟨bf, 8, none⟩ = some (.bool false) := (blk_cell (HP.out.get 0 rfl) 8).trans rfl; have yz9 : W3.cell? ⟨bf, 9, none⟩ = some (.int .i64 0) := (blk_cell (HP.out.get 0 rfl) 9).trans rfl; have yz10 : W3.cell? ⟨bf, 10, none⟩ = some (.string ⟨#[]⟩) := (blk_cell (HP.out.get 0 rfl) 10).trans rfl; have yz11 : W3.cell? ⟨bf, 11, none⟩ = some (.slice none 0 0) := (blk_cell (HP.out.get 0 rfl) 11).trans rfl; have yz12 : W3.cell? ⟨bf, 12, none⟩ = some (.slice none 0 0) := (blk_cell (HP.out.get 0 rfl) 12).trans rfl; have zz0 := blk_frozen (HP.out.get 0 rfl) 0; have zz1 := blk_frozen (HP.out.get 0 rfl) 1; have zz2 := blk_frozen (HP.out.get 0 rfl) 2; have zz3 := blk_frozen (HP.out.get 0 rfl) 3; have zz4 := blk_frozen (HP.out.get 0 rfl) 4; have zz5 := blk_frozen (HP.out.get 0 rfl) 5; have zz6 := blk_frozen (HP.out.get 0 rfl) 6; have zz7 := blk_frozen (HP.out.get 0 rfl) 7; have zz8 := blk_frozen (HP.out.get 0 rfl) 8; have zz9 := blk_frozen (HP.out.get 0 rfl) 9; have zz10 := blk_frozen (HP.out.get 0 rfl) 10; have zz11 := blk_frozen (HP.out.get 0 rfl) 11; have zz12 := blk_frozen (HP.out.get 0 rfl) 12))
      have n0 := Aside0.mk (HP.out.thirteen 0 rfl (.string x.f0) (.int .i64 x.f1) (.bool x.f2) (.bool x.f3) (.int .i64 x.f4) (.int .i64 x.f5) (.slice A6 x.f6.length c6) (.int .i64 x.f7.f0) (.bool x.f7.f1) (.int .i64 x.f7.f2) (.string x.f7.f3) (.slice A11 x.f7.f4.length c11) (.slice A12 x.f7.f5.length c12))
      have n1 := Aside0.mk ((HR.out.step (fun k hk hlt => th_same (g := bf) (k := k) (by have := hk.2; have := HGE.out; omega) (.string x.f0) (.int .i64 x.f1) (.bool x.f2) (.bool x.f3) (.int .i64 x.f4) (.int .i64 x.f5) (.slice A6 x.f6.length c6) (.int .i64 x.f7.f0) (.bool x.f7.f1) (.int .i64 x.f7.f2) (.string x.f7.f3) (.slice A11 x.f7.f4.length c11) (.slice A12 x.f7.f5.length c12))).mono (fun k hk => hk.1))
      clear HP HR
      have HP := n0
      have HR := n1
      clear n0 n1
      clear HGE yz0 zz0 x0 yz1 zz1 x1 yz2 zz2 x2 yz3 zz3 x3 yz4 zz4 x4 yz5 zz5 x5 yz6 zz6 x6 yz7 zz7 x7 yz8 zz8 x8 yz9 zz9 x9 yz10 zz10 x10 yz11 zz11 x11 yz12 zz12 x12
      generalize (((((((((((((W3.setCell ⟨bf, 0, none⟩ (.string x.f0)).setCell ⟨bf, 1, none⟩ (.int .i64 x.f1)).setCell ⟨bf, 2, none⟩ (.bool x.f2)).setCell ⟨bf, 3, none⟩ (.bool x.f3)).setCell ⟨bf, 4, none⟩ (.int .i64 x.f4)).setCell ⟨bf, 5, none⟩ (.int .i64 x.f5)).setCell ⟨bf, 6, none⟩ (.slice A6 x.f6.length c6)).setCell ⟨bf, 7, none⟩ (.int .i64 x.f7.f0)).setCell ⟨bf, 8, none⟩ (.bool x.f7.f1)).setCell ⟨bf, 9, none⟩ (.int .i64 x.f7.f2)).setCell ⟨bf, 10, none⟩ (.string x.f7.f3)).setCell ⟨bf, 11, none⟩ (.slice A11 x.f7.f4.length c11)).setCell ⟨bf, 12, none⟩ (.slice A12 x.f7.f5.length c12)) = W4 at HP HR ⊢
      have yf0 : W4.cell? ⟨bf, 0, none⟩ = some (.string x.f0) := (blk_cell (HP.out.get 0 rfl) 0).trans rfl
      go_upto_region 11 with (go_at_call 19; refine (steps_calls k x.f0 true sl sok _ HST.out).mono ?_; rintro e w5 ⟨A1, k1_, rfl, hC, hlk, hb⟩; have HLS := Aside0.mk hC; have HLK := Aside0.mk hlk; have n0 := Aside0.mk (HP.out.below hb); have n1 := Aside0.mk (HR.out.below hb); clear HP HR; have HP := n0; have HR := n1; clear n0 n1; clear hb hC hlk)
      clear yf0
      have yf7 : w5.cell? ⟨bf, 7, none⟩ = some (.int .i64 x.f7.f0) := (blk_cell (HP.out.get 0 rfl) 7).trans rfl
      by_cases c3 : x.f7.f0 = 0
      case pos =>
        rw [if_pos c3] at H1
        have e3a : (x.f7.f0 == 0) = true := beq_iff_eq.2 c3
        have e3b : (x.f7.f0 != 0) = false := bne_eq_false_iff_eq.2 c3
        go_wp2_with fail
        go_roundg k1
        case measure => omega
        case rel => exact ⟨_, i + 1, cur, F4, f4, F5, f5, rfl, ⟨by have h1_ := HMX.out; have h2_ := HII.out; have h3_ := HI.out; unfold wrap64; omega⟩, ⟨by have := HI.out; omega⟩, ⟨H1⟩, HR, ⟨HP.out.tail⟩⟩
      rw [if_neg c3] at H1
      have e3a : (x.f7.f0 == 0) = false := beq_eq_false_iff_ne.2 c3
      have e3b : (x.f7.f0 != 0) = true := bne_iff_ne.2 c3
      obtain ⟨⟨g, gok⟩, hg, H1⟩ := Option.bind_eq_some_iff.1 H1
      have HG := Aside0.mk hg
      clear hg
      go_upto_region 12 with (fail)
      clear yf7 e3a e3b
      have yv0 : w5.cell? ⟨bv, 0, none⟩ = some (.int .i64 cur.f0) := (blk_cell (HP.out.get 2 rfl) 0).trans rfl
      have yv1 : w5.cell? ⟨bv, 1, none⟩ = some (.bool cur.f1) := (blk_cell (HP.out.get 2 rfl) 1).trans rfl
      have yv2 : w5.cell? ⟨bv, 2, none⟩ = some (.int .i64 cur.f2) := (blk_cell (HP.out.get 2 rfl) 2).trans rfl
      have yv3 : w5.cell? ⟨bv, 3, none⟩ = some (.string cur.f3) := (blk_cell (HP.out.get 2 rfl) 3).trans rfl
      have yv4 : w5.cell? ⟨bv, 4, none⟩ = some (.slice F4 cur.f4.length f4) := (blk_cell (HP.out.get 2 rfl) 4).trans rfl
      have yv5 : w5.cell? ⟨bv, 5, none⟩ = some (.slice F5 cur.f5.length f5) := (blk_cell (HP.out.get 2 rfl) 5).trans rfl
      go_upto_region 13 with (first | (go_at_call 23; refine (get_calls sl cur F4 f4 F5 f5 A1 k1_ (g, gok) _ (fun k => k < w.heap.size ∨ br < k) HR.out HLS.out HLK.out HG.out).mono ?_; rintro e w7 ⟨G4, g4, G5, g5, rfl, hro, hb⟩; have HGR := Aside0.mk hro; have n0 := Aside0.mk (HP.out.below hb); have n1 := Aside0.mk (HR.out.below hb); clear HP HR; have HP := n0; have HR := n1; clear n0 n1; clear hb hro) | ((with_reducible refine gate_dst (N := 12) rfl ?_); refine box_event ?hg (N := 12) ?hd (cs := #[.int .i64 0, .bool false, .int .i64 0, .string ⟨#[]⟩, .slice none 0 0, .slice none 0 0]) (t := 25) ?hr ?_; (case hd => rfl); (case hg => rfl); (case hr => first | (go_simp; done) | (go_simp; rfl)); intro bg hg_ w8 hbox hb; have n0 := Aside0.mk (HP.out.new hg_ hbox hb); have n1 := Aside0.mk (HR.out.bound.below hb); have n2 := Aside0.mk ((show _ = bg from hg_.symm)); clear HP HR; have HP := n0; have HR := n1; have HGE := n2; clear n0 n1 n2; clear hg_ hbox hb; have yg0 : w8.cell? ⟨bg, 0, none⟩ = some (.int .i64 0) := (blk_cell (HP.out.get 0 rfl) 0).trans rfl; have yg1 : w8.cell? ⟨bg, 1, none⟩ = some (.bool false) := (blk_cell (HP.out.get 0 rfl) 1).trans rfl; have yg2 : w8.cell? ⟨bg, 2, none⟩ = some (.int .i64 0) := (blk_cell (HP.out.get 0 rfl) 2).trans rfl; have yg3 : w8.cell? ⟨bg, 3, none⟩ = some (.string ⟨#[]⟩) := (blk_cell (HP.out.get 0 rfl) 3).trans rfl; have yg4 : w8.cell? ⟨bg, 4, none⟩ = some (.slice none 0 0) := (blk_cell (HP.out.get 0 rfl) 4).trans rfl; have yg5 : w8.cell? ⟨bg, 5, none⟩ = some (.slice none 0 0) := (blk_cell (HP.out.get 0 rfl) 5).trans rfl; have zg0 := blk_frozen (HP.out.get 0 rfl) 0; have zg1 := blk_frozen (HP.out.get 0 rfl) 1; have zg2 := blk_frozen (HP.out.get 0 rfl) 2; have zg3 := blk_frozen (HP.out.get 0 rfl) 3; have zg4 := blk_frozen (HP.out.get 0 rfl) 4; have zg5 := blk_frozen (HP.out.get 0 rfl) 5))
      have n0 := Aside0.mk (HP.out.six 0 rfl (.int .i64 g.f0) (.bool g.f1) (.int .i64 g.f2) (.string g.f3) (.slice G4 g.f4.length g4) (.slice G5 g.f5.length g5))
      have n1 := Aside0.mk ((HR.out.six (g := bg) (fun k hk => by have := hk.2; have := HGE.out; omega) (.int .i64 g.f0) (.bool g.f1) (.int .i64 g.f2) (.string g.f3) (.slice G4 g.f4.length g4) (.slice G5 g.f5.length g5)).mono (fun k hk => hk.1))
      clear HP HR
      have HP := n0
      have HR := n1
      clear n0 n1
      clear HGE HGR yg0 zg0 yv0 yg1 zg1 yv1 yg2 zg2 yv2 yg3 zg3 yv3 yg4 zg4 yv4 yg5 zg5 yv5
      generalize ((((((w8.setCell ⟨bg, 0, none⟩ (.int .i64 g.f0)).setCell ⟨bg, 1, none⟩ (.bool g.f1)).setCell ⟨bg, 2, none⟩ (.int .i64 g.f2)).setCell ⟨bg, 3, none⟩ (.string g.f3)).setCell ⟨bg, 4, none⟩ (.slice G4 g.f4.length g4)).setCell ⟨bg, 5, none⟩ (.slice G5 g.f5.length g5)) = w9 at HP HR ⊢
      cases gok with
      | true =>
        rw [if_pos rfl] at H1
        go_wp2_with fail
        go_roundg k1
        case measure => omega
        case rel => exact ⟨_, i + 1, cur, F4, f4, F5, f5, rfl, ⟨by have h1_ := HMX.out; have h2_ := HII.out; have h3_ := HI.out; unfold wrap64; omega⟩, ⟨by have := HI.out; omega⟩, ⟨H1⟩, HR, ⟨HP.out.tail.tail⟩⟩
      | false =>
        rw [if_neg (fun h_ => by cases h_)] at H1
        obtain ⟨⟨s, se⟩, hs, H1⟩ := Option.bind_eq_some_iff.1 H1
        have HS := Aside0.mk hs
        clear hs
        go_upto_region 14 with (fail)
        have yv0 : w9.cell? ⟨bv, 0, none⟩ = some (.int .i64 cur.f0) := (blk_cell (HP.out.get 3 rfl) 0).trans rfl
        have yv1 : w9.cell? ⟨bv, 1, none⟩ = some (.bool cur.f1) := (blk_cell (HP.out.get 3 rfl) 1).trans rfl
        have yv2 : w9.cell? ⟨bv, 2, none⟩ = some (.int .i64 cur.f2) := (blk_cell (HP.out.get 3 rfl) 2).trans rfl
        have yv3 : w9.cell? ⟨bv, 3, none⟩ = some (.string cur.f3) := (blk_cell (HP.out.get 3 rfl) 3).trans rfl
        have yv4 : w9.cell? ⟨bv, 4, none⟩ = some (.slice F4 cur.f4.length f4) := (blk_cell (HP.out.get 3 rfl) 4).trans rfl
        have yv5 : w9.cell? ⟨bv, 5, none⟩ = some (.slice F5 cur.f5.length f5) := (blk_cell (HP.out.get 3 rfl) 5).trans rfl
        have yf0 : w9.cell? ⟨bf, 0, none⟩ = some (.string x.f0) := (blk_cell (HP.out.get 1 rfl) 0).trans rfl
        have yf7 : w9.cell? ⟨bf, 7, none⟩ = some (.int .i64 x.f7.f0) := (blk_cell (HP.out.get 1 rfl) 7).trans rfl
        have yf8 : w9.cell? ⟨bf, 8, none⟩ = some (.bool x.f7.f1) := (blk_cell (HP.out.get 1 rfl) 8).trans rfl
        have yf9 : w9.cell? ⟨bf, 9, none⟩ = some (.int .i64 x.f7.f2) := (blk_cell (HP.out.get 1 rfl) 9).trans rfl
        have yf10 : w9.cell? ⟨bf, 10, none⟩ = some (.string x.f7.f3) := (blk_cell (HP.out.get 1 rfl) 10).trans rfl
        have yf11 : w9.cell? ⟨bf, 11, none⟩ = some (.slice A11 x.f7.f4.length c11) := (blk_cell (HP.out.get 1 rfl) 11).trans rfl
        have yf12 : w9.cell? ⟨bf, 12, none⟩ = some (.slice A12 x.f7.f5.length c12) := (blk_cell (HP.out.get 1 rfl) 12).trans rfl
        go_upto_region 15 with (first | (go_at_call 8; refine (Set_callsF k cur F4 f4 F5 f5 x.f0 x.f7 A11 c11 A12 c12 (s, se) _ HR.out.now (G7.out.below HP.out.B) HS.out).mono ?_; rintro e wa ⟨E4, e4, E5, e5, rfl, hr, hb⟩; have LT := Aside0.mk (HP.out.lt 4 rfl); have LT3 := Aside0.mk (HP.out.lt 2 rfl); have HSR := Aside0.mk (hr.mono (ok' := fun k => br < k) (fun k hk => by have := LT3.out; omega)); clear HR LT; have n0 := Aside0.mk (HP.out.below hb); clear HP; have HP := n0; clear n0; clear hb hr) | ((with_reducible refine gate_dst (N := 14) rfl ?_); refine box_event ?hg (N := 14) ?hd (cs := #[.int .i64 0, .bool false, .int .i64 0, .string ⟨#[]⟩, .slice none 0 0, .slice none 0 0]) (t := 25) ?hr ?_; (case hd => rfl); (case hg => rfl); (case hr => first | (go_simp; done) | (go_simp; rfl)); intro bz hg_ wb hbox hb; have n0 := Aside0.mk (HP.out.new hg_ hbox hb); have n1 := Aside0.mk (HSR.out.bound.below hb); have n2 := Aside0.mk ((show _ = bz from hg_.symm)); clear HP HSR; have HP := n0; have HSR := n1; have HGE := n2; clear n0 n1 n2; clear hg_ hbox hb; have yg0 : wb.cell? ⟨bz, 0, none⟩ = some (.int .i64 0) := (blk_cell (HP.out.get 0 rfl) 0).trans rfl; have yg1 : wb.cell? ⟨bz, 1, none⟩ = some (.bool false) := (blk_cell (HP.out.get 0 rfl) 1).trans rfl; have yg2 : wb.cell? ⟨bz, 2, none⟩ = some (.int .i64 0) := (blk_cell (HP.out.get 0 rfl) 2).trans rfl; have yg3 : wb.cell? ⟨bz, 3, none⟩ = some (.string ⟨#[]⟩) := (blk_cell (HP.out.get 0 rfl) 3).trans rfl; have yg4 : wb.cell? ⟨bz, 4, none⟩ = some (.slice none 0 0) := (blk_cell (HP.out.get 0 rfl) 4).trans rfl; have yg5 : wb.cell? ⟨bz, 5, none⟩ = some (.slice none 0 0) := (blk_cell (HP.out.get 0 rfl) 5).trans rfl; have zg0 := blk_frozen (HP.out.get 0 rfl) 0; have zg1 := blk_frozen (HP.out.get 0 rfl) 1; have zg2 := blk_frozen (HP.out.get 0 rfl) 2; have zg3 := blk_frozen (HP.out.get 0 rfl) 3; have zg4 := blk_frozen (HP.out.get 0 rfl) 4; have zg5 := blk_frozen (HP.out.get 0 rfl) 5))
        have n0 := Aside0.mk (HP.out.six 0 rfl (.int .i64 s.f0) (.bool s.f1) (.int .i64 s.f2) (.string s.f3) (.slice E4 s.f4.length e4) (.slice E5 s.f5.length e5))
        have n1 := Aside0.mk ((HSR.out.six (g := bz) (fun k hk => by have := hk.2; have := HGE.out; omega) (.int .i64 s.f0) (.bool s.f1) (.int .i64 s.f2) (.string s.f3) (.slice E4 s.f4.length e4) (.slice E5 s.f5.length e5)).mono (fun k hk => hk.1))
        clear HP HSR
        have HP := n0
        have HSR := n1
        clear n0 n1
        clear HGE LT3 yg0 zg0 yv0 yg1 zg1 yv1 yg2 zg2 yv2 yg3 zg3 yv3 yg4 zg4 yv4 yg5 zg5 yv5 yf0 yf7 yf8 yf9 yf10 yf11 yf12
        generalize ((((((wb.setCell ⟨bz, 0, none⟩ (.int .i64 s.f0)).setCell ⟨bz, 1, none⟩ (.bool s.f1)).setCell ⟨bz, 2, none⟩ (.int .i64 s.f2)).setCell ⟨bz, 3, none⟩ (.string s.f3)).setCell ⟨bz, 4, none⟩ (.slice E4 s.f4.length e4)).setCell ⟨bz, 5, none⟩ (.slice E5 s.f5.length e5)) = wc at HP HSR ⊢
        by_cases c4_ : se = 0
        case neg =>
          rw [if_neg c4_] at H1
          injection H1 with H1
          subst H1
          have e4a : (se == 0) = false := beq_eq_false_iff_ne.2 c4_
          have e4b : (se != 0) = true := bne_iff_ne.2 c4_
          have n0 := Aside0.mk (HP.out.tail.tail.tail)
          clear HP
          have HP := n0
          clear n0
          have yr0 : wc.cell? ⟨br, 0, none⟩ = some (.int .i64 0) := (blk_cell (HP.out.get 0 rfl) 0).trans rfl
          have yr1 : wc.cell? ⟨br, 1, none⟩ = some (.bool false) := (blk_cell (HP.out.get 0 rfl) 1).trans rfl
          have yr2 : wc.cell? ⟨br, 2, none⟩ = some (.int .i64 0) := (blk_cell (HP.out.get 0 rfl) 2).trans rfl
          have yr3 : wc.cell? ⟨br, 3, none⟩ = some (.string ⟨#[]⟩) := (blk_cell (HP.out.get 0 rfl) 3).trans rfl
          have yr4 : wc.cell? ⟨br, 4, none⟩ = some (.slice none 0 0) := (blk_cell (HP.out.get 0 rfl) 4).trans rfl
          have yr5 : wc.cell? ⟨br, 5, none⟩ = some (.slice none 0 0) := (blk_cell (HP.out.get 0 rfl) 5).trans rfl
          have zr0 := blk_frozen (HP.out.get 0 rfl) 0
          have zr1 := blk_frozen (HP.out.get 0 rfl) 1
          have zr2 := blk_frozen (HP.out.get 0 rfl) 2
          have zr3 := blk_frozen (HP.out.get 0 rfl) 3
          have zr4 := blk_frozen (HP.out.get 0 rfl) 4
          have zr5 := blk_frozen (HP.out.get 0 rfl) 5
          go_wp2_with (fail)
          refine bodyPost_ret (results_ct rfl _ _ br 25 #[.int .i64 0, .bool false, .int .i64 0, .string ⟨#[]⟩, .slice none 0 0, .slice none 0 0] (0, 0) _ rfl (put6 (HP.out.get 0 rfl) _ _ _ _ _ _) Tryz.underlying25 rfl (by kernel_rfl)) rfl ?_
          exact ⟨none, 0, none, 0, rfl, Rd.nil _ _ _ _ _, put6_below HP.out.B (HP.out.low 0 rfl) _ _ _ _ _ _⟩
        rw [if_pos c4_] at H1
        have e4a : (se == 0) = true := beq_iff_eq.2 c4_
        have e4b : (se != 0) = false := bne_eq_false_iff_eq.2 c4_
        have yg0 : wc.cell? ⟨bz, 0, none⟩ = some (.int .i64 s.f0) := (blk_cell (HP.out.get 0 rfl) 0).trans rfl
        have yg1 : wc.cell? ⟨bz, 1, none⟩ = some (.bool s.f1) := (blk_cell (HP.out.get 0 rfl) 1).trans rfl
        have yg2 : wc.cell? ⟨bz, 2, none⟩ = some (.int .i64 s.f2) := (blk_cell (HP.out.get 0 rfl) 2).trans rfl
        have yg3 : wc.cell? ⟨bz, 3, none⟩ = some (.string s.f3) := (blk_cell (HP.out.get 0 rfl) 3).trans rfl
        have yg4 : wc.cell? ⟨bz, 4, none⟩ = some (.slice E4 s.f4.length e4) := (blk_cell (HP.out.get 0 rfl) 4).trans rfl
        have yg5 : wc.cell? ⟨bz, 5, none⟩ = some (.slice E5 s.f5.length e5) := (blk_cell (HP.out.get 0 rfl) 5).trans rfl
        have yv0 : wc.cell? ⟨bv, 0, none⟩ = some (.int .i64 cur.f0) := (blk_cell (HP.out.get 4 rfl) 0).trans rfl
        have yv1 : wc.cell? ⟨bv, 1, none⟩ = some (.bool cur.f1) := (blk_cell (HP.out.get 4 rfl) 1).trans rfl
        have yv2 : wc.cell? ⟨bv, 2, none⟩ = some (.int .i64 cur.f2) := (blk_cell (HP.out.get 4 rfl) 2).trans rfl
        have yv3 : wc.cell? ⟨bv, 3, none⟩ = some (.string cur.f3) := (blk_cell (HP.out.get 4 rfl) 3).trans rfl
        have yv4 : wc.cell? ⟨bv, 4, none⟩ = some (.slice F4 cur.f4.length f4) := (blk_cell (HP.out.get 4 rfl) 4).trans rfl
        have yv5 : wc.cell? ⟨bv, 5, none⟩ = some (.slice F5 cur.f5.length f5) := (blk_cell (HP.out.get 4 rfl) 5).trans rfl
        have zv0 := blk_frozen (HP.out.get 4 rfl) 0
        have zv1 := blk_frozen (HP.out.get 4 rfl) 1
        have zv2 := blk_frozen (HP.out.get 4 rfl) 2
        have zv3 := blk_frozen (HP.out.get 4 rfl) 3
        have zv4 := blk_frozen (HP.out.get 4 rfl) 4
        have zv5 := blk_frozen (HP.out.get 4 rfl) 5
        go_wp2_with fail
        go_roundg k1
        case measure => omega
        case rel => exact ⟨_, i + 1, s, E4, e4, E5, e5, rfl, ⟨by have h1_ := HMX.out; have h2_ := HII.out; have h3_ := HI.out; unfold wrap64; omega⟩, ⟨by have := HI.out; omega⟩, ⟨H1⟩, ⟨(HSR.out.six (g := bv) (fun k hk => by have := LBV.out; omega) (.int .i64 s.f0) (.bool s.f1) (.int .i64 s.f2) (.string s.f3) (.slice E4 s.f4.length e4) (.slice E5 s.f5.length e5)).mono (fun k hk => .inr hk)⟩, ⟨(HP.out.six 4 rfl (.int .i64 s.f0) (.bool s.f1) (.int .i64 s.f2) (.string s.f3) (.slice E4 s.f4.length e4) (.slice E5 s.f5.length e5)).tail.tail.tail⟩⟩
end Go.Proofs.YtlofkjdcapbohaaGreatDoor.PConfKeeps
