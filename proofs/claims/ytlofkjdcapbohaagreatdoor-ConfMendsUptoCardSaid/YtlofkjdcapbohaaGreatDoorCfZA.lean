/- For the law ConfMends: changeFault and Apply, walked where all is right. No condition. -/
import Derived.Test.YtlofkjdcapbohaaGreatDoorCfZ
namespace Go.Proofs.YtlofkjdcapbohaaGreatDoor.PConfKeeps
open Go.RowKit Go.Proofs.YtlofkjdcapbohaaGreatDoorW.PrintWords Go.Proofs.YtlofkjdcapbohaaGreatDoorW.PrintLast Go.Proofs.YtlofkjdcapbohaaGreatDoorW.PrintMore
set_option linter.unusedVariables false
set_option linter.unusedSimpArgs false

section
variable {w W : World} {g t k : Nat} {l : List (Nat × Array Value × Nat)}
theorem ei_same (hk : k ≠ g) (v0 v1 v2 v3 v4 v5 v6 v7 : Value) : ((((((((W.setCell ⟨g, 0, none⟩ v0).setCell ⟨g, 1, none⟩ v1).setCell ⟨g, 2, none⟩ v2).setCell ⟨g, 3, none⟩ v3).setCell ⟨g, 4, none⟩ v4).setCell ⟨g, 5, none⟩ v5).setCell ⟨g, 6, none⟩ v6).setCell ⟨g, 7, none⟩ v7).heap[k]? = W.heap[k]? := by
 iterate 8 rw [Below.heap_setCell _ _ _ _ hk]
theorem Bs.eight {c0 c1 c2 c3 c4 c5 c6 c7 : Value} (h : Bs w W l) (i : Nat) (hi : l[i]? = some (g, #[c0, c1, c2, c3, c4, c5, c6, c7], t)) (v0 v1 v2 v3 v4 v5 v6 v7 : Value) : Bs w ((((((((W.setCell ⟨g, 0, none⟩ v0).setCell ⟨g, 1, none⟩ v1).setCell ⟨g, 2, none⟩ v2).setCell ⟨g, 3, none⟩ v3).setCell ⟨g, 4, none⟩ v4).setCell ⟨g, 5, none⟩ v5).setCell ⟨g, 6, none⟩ v6).setCell ⟨g, 7, none⟩ v7) (l.set i (g, #[v0, v1, v2, v3, v4, v5, v6, v7], t)) := by
 obtain ⟨a0, b0⟩ := h.put' i hi 0 v0 (cs' := #[v0, c1, c2, c3, c4, c5, c6, c7]) rfl
 obtain ⟨a1, b1⟩ := a0.put' i b0 1 v1 (cs' := #[v0, v1, c2, c3, c4, c5, c6, c7]) rfl
 obtain ⟨a2, b2⟩ := a1.put' i b1 2 v2 (cs' := #[v0, v1, v2, c3, c4, c5, c6, c7]) rfl
 obtain ⟨a3, b3⟩ := a2.put' i b2 3 v3 (cs' := #[v0, v1, v2, v3, c4, c5, c6, c7]) rfl
 obtain ⟨a4, b4⟩ := a3.put' i b3 4 v4 (cs' := #[v0, v1, v2, v3, v4, c5, c6, c7]) rfl
 obtain ⟨a5, b5⟩ := a4.put' i b4 5 v5 (cs' := #[v0, v1, v2, v3, v4, v5, c6, c7]) rfl
 obtain ⟨a6, b6⟩ := a5.put' i b5 6 v6 (cs' := #[v0, v1, v2, v3, v4, v5, v6, c7]) rfl
 obtain ⟨a7, b7⟩ := a6.put' i b6 7 v7 (cs' := #[v0, v1, v2, v3, v4, v5, v6, v7]) rfl
 rw [List.set_set, List.set_set, List.set_set, List.set_set, List.set_set, List.set_set, List.set_set] at a7
 exact a7
end
/-- a change that Apply takes -/
structure CfOk (k : Nat) (c : S69) : Prop where
 ck : Fck k c.f1 = some 0
 st : ∃ st, conf_steps.f k c.f0 false = some (st, true) ∧ (c.f2 = true → st ≠ [])
 gone : c.f2 = true → c.f1 = z25
 un : conf_unused.f k 0 false 0 ⟨#[]⟩ [] [] = some false
set_option maxHeartbeats 4000000 in
set_option maxRecDepth 100000 in
theorem cf_calls (k : Nat) (c : S69) (A4 : Option Addr) (c4 : Nat) (A5 : Option Addr) (c5 : Nat) (w : World) (hv : Rd w c.f1 A4 c4 A5 c5) (h : CfOk k c) :
  Calls Tryz.prog 26 #[.agg #[.string c.f0, .int .i64 c.f1.f0, .bool c.f1.f1, .int .i64 c.f1.f2, .string c.f1.f3, .slice A4 c.f1.f4.length c4, .slice A5 c.f1.f5.length c5, .bool c.f2]] w fun e w' => e = .returned (.int .i64 0) ∧ Below w.heap.size w w' := by
 have hu25 := Tryz.underlying25
 have hu69 := Tryz.underlying69
 obtain ⟨rt, x, gn⟩ := c
 obtain ⟨hck, ⟨st, hst, hne⟩, hgo, hun⟩ := h
 dsimp only at hv hck hst hne hgo ⊢
 have HV := Aside0.mk hv.F
 have HP := Aside0.mk (Bs.nil w)
 have HCK := Aside0.mk hck
 have HST := Aside0.mk hst
 have HNE := Aside0.mk hne
 have HGO := Aside0.mk hgo
 have HUN := Aside0.mk hun
 clear hv hck hst hne hgo hun
 cases gn with
 | false =>
  go_enter Tryz.func26, Tryz.ntmps26
  go_upto_region 1 with (((with_reducible refine gate_dst (N := 1) rfl ?_); refine box_event ?hg (N := 1) ?hd (cs := #[.string rt, .int .i64 x.f0, .bool x.f1, .int .i64 x.f2, .string x.f3, .slice A4 x.f4.length c4, .slice A5 x.f5.length c5, .bool false]) (t := 69) ?hr ?_; (case hd => rfl); (case hg => rfl); (case hr => first | (go_simp; done) | (go_simp; rfl)); intro bc hg_ W1 hbox hb; have n0 := Aside0.mk (HP.out.new hg_ hbox hb); clear HP; have HP := n0; clear n0; clear hg_ hbox hb))
  have yc0 : W1.cell? ⟨bc, 0, none⟩ = some (.string rt) := HP.out.cl 0 0 rfl rfl
  have yc1 : W1.cell? ⟨bc, 1, none⟩ = some (.int .i64 x.f0) := HP.out.cl 0 1 rfl rfl
  have yc2 : W1.cell? ⟨bc, 2, none⟩ = some (.bool x.f1) := HP.out.cl 0 2 rfl rfl
  have yc3 : W1.cell? ⟨bc, 3, none⟩ = some (.int .i64 x.f2) := HP.out.cl 0 3 rfl rfl
  have yc4 : W1.cell? ⟨bc, 4, none⟩ = some (.string x.f3) := HP.out.cl 0 4 rfl rfl
  have yc5 : W1.cell? ⟨bc, 5, none⟩ = some (.slice A4 x.f4.length c4) := HP.out.cl 0 5 rfl rfl
  have yc6 : W1.cell? ⟨bc, 6, none⟩ = some (.slice A5 x.f5.length c5) := HP.out.cl 0 6 rfl rfl
  have yc7 : W1.cell? ⟨bc, 7, none⟩ = some (.bool false) := HP.out.cl 0 7 rfl rfl
  go_upto_region 6 with (go_at_call 18; refine (check_calls k x A4 c4 A5 c5 0 _ (HV.out.below HP.out.B).now HCK.out).mono ?_; rintro e w4 ⟨rfl, hb⟩; have n0 := Aside0.mk (HP.out.below hb); clear HP; have HP := n0; clear n0; clear hb)
  clear yc0 yc1 yc2 yc3 yc4 yc5 yc6 yc7
  have yc0 : w4.cell? ⟨bc, 0, none⟩ = some (.string rt) := HP.out.cl 0 0 rfl rfl
  go_upto_region 7 with (go_at_call 19; refine (steps_calls k rt false st true _ HST.out).mono ?_; rintro e w6 ⟨A1, k1_, rfl, hC, hlk, hb⟩; have n0 := Aside0.mk (HP.out.below hb); clear HP; have HP := n0; clear n0; clear hb hC hlk)
  clear yc0
  have yc7 : w6.cell? ⟨bc, 7, none⟩ = some (.bool false) := HP.out.cl 0 7 rfl rfl
  go_wp2_with fail
  go_ret
  exact ⟨rfl, HP.out.B⟩
 | true =>
  have hx := HGO.out rfl
  subst hx
  have hne := HNE.out rfl
  have h0_ : (st.length : Int) ≠ 0 := by intro h_; exact hne (List.eq_nil_of_length_eq_zero (by omega))
  have s1 : ((st.length : Int) == 0) = false := beq_eq_false_iff_ne.2 h0_
  have s2 : ((st.length : Int) != 0) = true := bne_iff_ne.2 h0_
  have s3 : (st.length == 0) = false := beq_eq_false_iff_ne.2 (by omega)
  replace hne := Aside0.mk hne
  replace h0_ := Aside0.mk h0_
  show Calls Tryz.prog 26 #[.agg #[.string rt, .int .i64 0, .bool false, .int .i64 0, .string ⟨#[]⟩, .slice A4 0 c4, .slice A5 0 c5, .bool true]] w _
  go_enter Tryz.func26, Tryz.ntmps26
  go_upto_region 1 with (((with_reducible refine gate_dst (N := 1) rfl ?_); refine box_event ?hg (N := 1) ?hd (cs := #[.string rt, .int .i64 0, .bool false, .int .i64 0, .string ⟨#[]⟩, .slice A4 0 c4, .slice A5 0 c5, .bool true]) (t := 69) ?hr ?_; (case hd => rfl); (case hg => rfl); (case hr => first | (go_simp; done) | (go_simp; rfl)); intro bc hg_ W1 hbox hb; have n0 := Aside0.mk (HP.out.new hg_ hbox hb); clear HP; have HP := n0; clear n0; clear hg_ hbox hb))
  have yc0 : W1.cell? ⟨bc, 0, none⟩ = some (.string rt) := HP.out.cl 0 0 rfl rfl
  have yc1 : W1.cell? ⟨bc, 1, none⟩ = some (.int .i64 0) := HP.out.cl 0 1 rfl rfl
  have yc2 : W1.cell? ⟨bc, 2, none⟩ = some (.bool false) := HP.out.cl 0 2 rfl rfl
  have yc3 : W1.cell? ⟨bc, 3, none⟩ = some (.int .i64 0) := HP.out.cl 0 3 rfl rfl
  have yc4 : W1.cell? ⟨bc, 4, none⟩ = some (.string ⟨#[]⟩) := HP.out.cl 0 4 rfl rfl
  have yc5 : W1.cell? ⟨bc, 5, none⟩ = some (.slice A4 0 c4) := HP.out.cl 0 5 rfl rfl
  have yc6 : W1.cell? ⟨bc, 6, none⟩ = some (.slice A5 0 c5) := HP.out.cl 0 6 rfl rfl
  have yc7 : W1.cell? ⟨bc, 7, none⟩ = some (.bool true) := HP.out.cl 0 7 rfl rfl
  go_upto_region 3 with (go_at_call 56; refine (conf_unused.calls k 0 false 0 ⟨#[]⟩ A4 c4 [] A5 c5 [] false _ (HV.out.below HP.out.B).now.1 HV.out.2.1 (HV.out.below HP.out.B).now.2.2.1 HV.out.2.2.2 HUN.out).mono ?_; rintro e w2 ⟨rfl, hb⟩; have n0 := Aside0.mk (HP.out.below hb); clear HP; have HP := n0; clear n0; clear hb)
  clear yc0 yc1 yc2 yc3 yc4 yc5 yc6 yc7
  have yc0 : w2.cell? ⟨bc, 0, none⟩ = some (.string rt) := HP.out.cl 0 0 rfl rfl
  have yc1 : w2.cell? ⟨bc, 1, none⟩ = some (.int .i64 0) := HP.out.cl 0 1 rfl rfl
  have yc2 : w2.cell? ⟨bc, 2, none⟩ = some (.bool false) := HP.out.cl 0 2 rfl rfl
  have yc3 : w2.cell? ⟨bc, 3, none⟩ = some (.int .i64 0) := HP.out.cl 0 3 rfl rfl
  have yc4 : w2.cell? ⟨bc, 4, none⟩ = some (.string ⟨#[]⟩) := HP.out.cl 0 4 rfl rfl
  have yc5 : w2.cell? ⟨bc, 5, none⟩ = some (.slice A4 0 c4) := HP.out.cl 0 5 rfl rfl
  have yc6 : w2.cell? ⟨bc, 6, none⟩ = some (.slice A5 0 c5) := HP.out.cl 0 6 rfl rfl
  have yc7 : w2.cell? ⟨bc, 7, none⟩ = some (.bool true) := HP.out.cl 0 7 rfl rfl
  go_upto_region 6 with (go_at_call 18; refine (check_calls k z25 A4 c4 A5 c5 0 _ (HV.out.below HP.out.B).now HCK.out).mono ?_; rintro e w4 ⟨rfl, hb⟩; have n0 := Aside0.mk (HP.out.below hb); clear HP; have HP := n0; clear n0; clear hb)
  clear yc0 yc1 yc2 yc3 yc4 yc5 yc6 yc7
  have yc0 : w4.cell? ⟨bc, 0, none⟩ = some (.string rt) := HP.out.cl 0 0 rfl rfl
  go_upto_region 7 with (go_at_call 19; refine (steps_calls k rt false st true _ HST.out).mono ?_; rintro e w6 ⟨A1, k1_, rfl, hC, hlk, hb⟩; have n0 := Aside0.mk (HP.out.below hb); clear HP; have HP := n0; clear n0; clear hb hC hlk)
  clear yc0
  have yc7 : w6.cell? ⟨bc, 7, none⟩ = some (.bool true) := HP.out.cl 0 7 rfl rfl
  go_wp2_with fail
  go_ret
  exact ⟨rfl, HP.out.B⟩
/-- the changes, made -/
def capp (k : Nat) : List S69 → S25 → Option S25
 | [], v => some v
 | c :: l, v => (conf_steps.f k c.f0 false).bind fun st => (if c.f2 = true then crem st.1 v else (cset st.1 v c.f1).bind fun y => if y.2 = 0 then some y.1 else none).bind fun y => capp k l y
structure ApOk (k : Nat) (v : S25) (l : List S69) (x r : S25) : Prop where
 ck : Fck k v = some 0
 n : l.length ≤ 1000000
 it : ∀ c ∈ l, CfOk k c
 ap : capp k l v = some x
 cx : Fck k x = some 0
 cl : Fcl k x = some r
theorem rd69_in {l : List S69} {i : Int} (h0 : 0 ≤ i) (h1 : i < (l.length : Int)) : rd_T69 l i ∈ l := by
 obtain ⟨n, rfl⟩ := Int.eq_ofNat_of_zero_le h0
 unfold rd_T69
 rw [List.getD_eq_getElem?_getD, Int.toNat_natCast, List.getElem?_eq_getElem (by omega)]; exact List.getElem_mem _
theorem rd69_drop {l : List S69} {i : Nat} (h : i < l.length) : l.drop i = rd_T69 l (i : Int) :: l.drop (i + 1) := by
 rw [List.drop_eq_getElem_cons h]
 unfold rd_T69
 rw [List.getD_eq_getElem?_getD, Int.toNat_natCast, List.getElem?_eq_getElem h]; rfl
set_option maxHeartbeats 4000000 in
set_option maxRecDepth 100000 in
theorem Apply_calls (k : Nat) (v : S25) (A4 : Option Addr) (c4 : Nat) (A5 : Option Addr) (c5 : Nat) (l : List S69) (A : Option Addr) (c : Nat) (x r : S25) (w : World) (hv : Rd w v A4 c4 A5 c5) (hl : Kd.C k69 w A l.length l) (hc : l.length ≤ c) (h : ApOk k v l x r) :
  Calls Tryz.prog 13 #[.agg #[.int .i64 v.f0, .bool v.f1, .int .i64 v.f2, .string v.f3, .slice A4 v.f4.length c4, .slice A5 v.f5.length c5], .slice A l.length c] w fun e w' => ∃ E4 e4 E5 e5, e = .returned (.tuple #[.agg #[.int .i64 r.f0, .bool r.f1, .int .i64 r.f2, .string r.f3, .slice E4 r.f4.length e4, .slice E5 r.f5.length e5], .int .i64 0]) ∧ Rd w' r E4 e4 E5 e5 ∧ Below w.heap.size w w' := by
 have hu25 := Tryz.underlying25
 have hu69 := Tryz.underlying69
 have HV := Aside0.mk hv.F
 have HL := Aside0.mk hl
 have HP := Aside0.mk (Bs.nil w)
 obtain ⟨hck, hn, hit, hap, hcx, hcl⟩ := h
 have HCK := Aside0.mk hck
 have HLN := Aside0.mk hn
 have HIT := Aside0.mk hit
 have HAP := Aside0.mk hap
 have HCX := Aside0.mk hcx
 have HCL := Aside0.mk hcl
 clear hv hl hck hn hit hap hcx hcl
 go_enter Tryz.func13, Tryz.ntmps13
 go_upto_region 1 with (first | ((with_reducible refine gate_dst (N := 2) rfl ?_); refine box_event ?hg (N := 2) ?hd (cs := #[.int .i64 v.f0, .bool v.f1, .int .i64 v.f2, .string v.f3, .slice A4 v.f4.length c4, .slice A5 v.f5.length c5]) (t := 25) ?hr ?_; (case hd => rfl); (case hg => rfl); (case hr => first | (go_simp; done) | (go_simp; rfl)); intro bv hg_ W1 hbox hb; have n0 := Aside0.mk (HP.out.new hg_ hbox hb); clear HP; have HP := n0; clear n0; clear hg_ hbox hb) | ((with_reducible refine gate_dst (N := 4) rfl ?_); refine box_event ?hg (N := 4) ?hd (cs := #[.int .i64 0, .bool false, .int .i64 0, .string ⟨#[]⟩, .slice none 0 0, .slice none 0 0]) (t := 25) ?hr ?_; (case hd => rfl); (case hg => rfl); (case hr => first | (go_simp; done) | (go_simp; rfl)); intro br hg_ W2 hbox hb; have n0 := Aside0.mk (HP.out.new hg_ hbox hb); clear HP; have HP := n0; clear n0; clear hg_ hbox hb))
 have yv0 : W2.cell? ⟨bv, 0, none⟩ = some (.int .i64 v.f0) := HP.out.cl 1 0 rfl rfl
 have yv1 : W2.cell? ⟨bv, 1, none⟩ = some (.bool v.f1) := HP.out.cl 1 1 rfl rfl
 have yv2 : W2.cell? ⟨bv, 2, none⟩ = some (.int .i64 v.f2) := HP.out.cl 1 2 rfl rfl
 have yv3 : W2.cell? ⟨bv, 3, none⟩ = some (.string v.f3) := HP.out.cl 1 3 rfl rfl
 have yv4 : W2.cell? ⟨bv, 4, none⟩ = some (.slice A4 v.f4.length c4) := HP.out.cl 1 4 rfl rfl
 have yv5 : W2.cell? ⟨bv, 5, none⟩ = some (.slice A5 v.f5.length c5) := HP.out.cl 1 5 rfl rfl
 go_upto_region 4 with (go_at_call 18; refine (check_calls k v A4 c4 A5 c5 0 _ (HV.out.below HP.out.B).now HCK.out).mono ?_; rintro e W3 ⟨rfl, hb⟩; have n0 := Aside0.mk (HP.out.below hb); clear HP; have HP := n0; clear n0; clear hb)
 clear yv0 yv1 yv2 yv3 yv4 yv5
 go_wp2_with fail
 go_loopg [24] l.length (fun kq v_ w' => ∃ (ii : Int) (i : Nat), v_ = .int .i64 ii ∧ Aside0 (ii = (i : Int)) ∧ Aside0 (i + kq = l.length) ∧ Aside0 (Bs w w' [(br, #[.int .i64 0, .bool false, .int .i64 0, .string ⟨#[]⟩, .slice none 0 0, .slice none 0 0], 25), (bv, #[.int .i64 v.f0, .bool v.f1, .int .i64 v.f2, .string v.f3, .slice A4 v.f4.length c4, .slice A5 v.f5.length c5], 25)]))
 case atStart => exact ⟨0, 0, rfl, ⟨rfl⟩, ⟨by omega⟩, HP⟩
 case round =>
  clear HP
  obtain ⟨ii, i, rfl, HII, HI, HP⟩ := hrel
  cases gk with
  | succ k1 =>
   have p0 : 0 ≤ ii := by have := HII.out; omega
   have p1 : ii < (l.length : Int) := by have := HII.out; have := HI.out; omega
   have q0 : decide (0 ≤ ii) = true := decide_eq_true p0
   have q1 : decide (ii < (l.length : Int)) = true := decide_eq_true p1
   obtain ⟨ad, X4, X4c, X5, X5c, e_, x0, x1, x2, x3, x4, x5, x6, x7, hrd⟩ := at_T69 HL.out ii p0 p1
   cases e_
   have hm_ := rd69_in (l := l) p0 p1
   generalize rd_T69 l ii = cc at x0 x1 x2 x3 x4 x5 x6 x7 hrd hm_
   have HX := Aside0.mk hrd.F
   have HOK := Aside0.mk (HIT.out cc hm_)
   clear hrd hm_
   replace x0 := (HP.out.B.cell (World.block_lt_of_cell? w _ x0)).trans x0
   replace x1 := (HP.out.B.cell (World.block_lt_of_cell? w _ x1)).trans x1
   replace x2 := (HP.out.B.cell (World.block_lt_of_cell? w _ x2)).trans x2
   replace x3 := (HP.out.B.cell (World.block_lt_of_cell? w _ x3)).trans x3
   replace x4 := (HP.out.B.cell (World.block_lt_of_cell? w _ x4)).trans x4
   replace x5 := (HP.out.B.cell (World.block_lt_of_cell? w _ x5)).trans x5
   replace x6 := (HP.out.B.cell (World.block_lt_of_cell? w _ x6)).trans x6
   replace x7 := (HP.out.B.cell (World.block_lt_of_cell? w _ x7)).trans x7
   replace p0 := eq_true p0
   replace p1 := eq_true p1
   go_upto_region 7 with (((with_reducible refine gate_dst (N := 8) rfl ?_); refine box_event ?hg (N := 8) ?hd (cs := #[.string ⟨#[]⟩, .int .i64 0, .bool false, .int .i64 0, .string ⟨#[]⟩, .slice none 0 0, .slice none 0 0, .bool false]) (t := 69) ?hr ?_; (case hd => rfl); (case hg => rfl); (case hr => first | (go_simp; done) | (go_simp; rfl)); intro bc hg_ W4 hbox hb; have n0 := Aside0.mk (HP.out.new hg_ hbox hb); clear HP; have HP := n0; clear n0; clear hg_ hbox hb; have yz0 : W4.cell? ⟨bc, 0, none⟩ = some (.string ⟨#[]⟩) := HP.out.cl 0 0 rfl rfl; have yz1 : W4.cell? ⟨bc, 1, none⟩ = some (.int .i64 0) := HP.out.cl 0 1 rfl rfl; have yz2 : W4.cell? ⟨bc, 2, none⟩ = some (.bool false) := HP.out.cl 0 2 rfl rfl; have yz3 : W4.cell? ⟨bc, 3, none⟩ = some (.int .i64 0) := HP.out.cl 0 3 rfl rfl; have yz4 : W4.cell? ⟨bc, 4, none⟩ = some (.string ⟨#[]⟩) := HP.out.cl 0 4 rfl rfl; have yz5 : W4.cell? ⟨bc, 5, none⟩ = some (.slice none 0 0) := HP.out.cl 0 5 rfl rfl; have yz6 : W4.cell? ⟨bc, 6, none⟩ = some (.slice none 0 0) := HP.out.cl 0 6 rfl rfl; have yz7 : W4.cell? ⟨bc, 7, none⟩ = some (.bool false) := HP.out.cl 0 7 rfl rfl; have zz0 := HP.out.fz 0 0 rfl; have zz1 := HP.out.fz 0 1 rfl; have zz2 := HP.out.fz 0 2 rfl; have zz3 := HP.out.fz 0 3 rfl; have zz4 := HP.out.fz 0 4 rfl; have zz5 := HP.out.fz 0 5 rfl; have zz6 := HP.out.fz 0 6 rfl; have zz7 := HP.out.fz 0 7 rfl))
   have n0 := Aside0.mk (HP.out.eight 0 rfl (.string cc.f0) (.int .i64 cc.f1.f0) (.bool cc.f1.f1) (.int .i64 cc.f1.f2) (.string cc.f1.f3) (.slice X4 cc.f1.f4.length X4c) (.slice X5 cc.f1.f5.length X5c) (.bool cc.f2))
   clear HP
   have HP := n0
   clear n0
   clear yz0 zz0 x0 yz1 zz1 x1 yz2 zz2 x2 yz3 zz3 x3 yz4 zz4 x4 yz5 zz5 x5 yz6 zz6 x6 yz7 zz7 x7
   generalize ((((((((W4.setCell ⟨bc, 0, none⟩ (.string cc.f0)).setCell ⟨bc, 1, none⟩ (.int .i64 cc.f1.f0)).setCell ⟨bc, 2, none⟩ (.bool cc.f1.f1)).setCell ⟨bc, 3, none⟩ (.int .i64 cc.f1.f2)).setCell ⟨bc, 4, none⟩ (.string cc.f1.f3)).setCell ⟨bc, 5, none⟩ (.slice X4 cc.f1.f4.length X4c)).setCell ⟨bc, 6, none⟩ (.slice X5 cc.f1.f5.length X5c)).setCell ⟨bc, 7, none⟩ (.bool cc.f2)) = W5 at HP ⊢
   have yc0 : W5.cell? ⟨bc, 0, none⟩ = some (.string cc.f0) := HP.out.cl 0 0 rfl rfl
   have yc1 : W5.cell? ⟨bc, 1, none⟩ = some (.int .i64 cc.f1.f0) := HP.out.cl 0 1 rfl rfl
   have yc2 : W5.cell? ⟨bc, 2, none⟩ = some (.bool cc.f1.f1) := HP.out.cl 0 2 rfl rfl
   have yc3 : W5.cell? ⟨bc, 3, none⟩ = some (.int .i64 cc.f1.f2) := HP.out.cl 0 3 rfl rfl
   have yc4 : W5.cell? ⟨bc, 4, none⟩ = some (.string cc.f1.f3) := HP.out.cl 0 4 rfl rfl
   have yc5 : W5.cell? ⟨bc, 5, none⟩ = some (.slice X4 cc.f1.f4.length X4c) := HP.out.cl 0 5 rfl rfl
   have yc6 : W5.cell? ⟨bc, 6, none⟩ = some (.slice X5 cc.f1.f5.length X5c) := HP.out.cl 0 6 rfl rfl
   have yc7 : W5.cell? ⟨bc, 7, none⟩ = some (.bool cc.f2) := HP.out.cl 0 7 rfl rfl
   go_wp2_with (go_at_call 26; refine (cf_calls k cc X4 X4c X5 X5c _ (HX.out.below HP.out.B).now HOK.out).mono ?_; rintro e W6 ⟨rfl, hb⟩; have n0 := Aside0.mk (HP.out.below hb); clear HP; have HP := n0; clear n0; clear hb)
   go_roundg k1
   case measure => omega
   case rel => exact ⟨_, i + 1, rfl, ⟨by have h0_ := HLN.out; have h1_ := HII.out; have h2_ := HI.out; unfold wrap64; omega⟩, ⟨by have := HI.out; omega⟩, ⟨HP.out.tail⟩⟩
  | zero =>
   have e0 : decide (ii < (l.length : Int)) = false := decide_eq_false (by have := HII.out; have := HI.out; omega)
   clear HII HI
   have LBV := Aside0.mk (show bv < br from HP.out.nd 0 1 _ _ (by omega) rfl rfl)
   have GBV := Aside0.mk (HP.out.low 1 rfl)
   have HT := Aside0.mk ((HV.out.below HP.out.B).mono (ok' := (fun q => q < w.heap.size ∨ br < q)) (fun q hq => .inl hq))
   go_wp2_with fail
   go_loopg [37] l.length (fun kq v_ w' => ∃ (ii : Int) (i : Nat) (cur : S25) (F4 : Option Addr) (f4 : Nat) (F5 : Option Addr) (f5 : Nat), v_ = .int .i64 ii ∧ Aside0 (ii = (i : Int)) ∧ Aside0 (i + kq = l.length) ∧ Aside0 (capp k (l.drop i) cur = some x) ∧ Aside0 (RdF w' (fun q => q < w.heap.size ∨ br < q) cur F4 f4 F5 f5) ∧ Aside0 (Bs w w' [(br, #[.int .i64 0, .bool false, .int .i64 0, .string ⟨#[]⟩, .slice none 0 0, .slice none 0 0], 25), (bv, #[.int .i64 cur.f0, .bool cur.f1, .int .i64 cur.f2, .string cur.f3, .slice F4 cur.f4.length f4, .slice F5 cur.f5.length f5], 25)]))
   case atStart => exact ⟨0, 0, v, A4, c4, A5, c5, rfl, ⟨rfl⟩, ⟨by omega⟩, HAP, HT, HP⟩
   case round =>
    clear HP HT HAP
    obtain ⟨ii, i, cur, F4, f4, F5, f5, rfl, HII, HI, HAP, HT, HP⟩ := hrel
    cases gk with
    | zero =>
     have e0 : decide (ii < (l.length : Int)) = false := decide_eq_false (by have := HII.out; have := HI.out; omega)
     have H1 := HAP.out
     rw [List.drop_eq_nil_of_le (by have := HI.out; omega), capp] at H1
     injection H1 with H1
     subst H1
     clear HAP HII HI
     have yh0 : wr.cell? ⟨bv, 0, none⟩ = some (.int .i64 cur.f0) := HP.out.cl 1 0 rfl rfl
     have yh1 : wr.cell? ⟨bv, 1, none⟩ = some (.bool cur.f1) := HP.out.cl 1 1 rfl rfl
     have yh2 : wr.cell? ⟨bv, 2, none⟩ = some (.int .i64 cur.f2) := HP.out.cl 1 2 rfl rfl
     have yh3 : wr.cell? ⟨bv, 3, none⟩ = some (.string cur.f3) := HP.out.cl 1 3 rfl rfl
     have yh4 : wr.cell? ⟨bv, 4, none⟩ = some (.slice F4 cur.f4.length f4) := HP.out.cl 1 4 rfl rfl
     have yh5 : wr.cell? ⟨bv, 5, none⟩ = some (.slice F5 cur.f5.length f5) := HP.out.cl 1 5 rfl rfl
     go_upto_region 25 with (go_at_call 18; refine (check_calls k cur F4 f4 F5 f5 0 _ HT.out.now HCX.out).mono ?_; rintro e W5 ⟨rfl, hb⟩; have n0 := Aside0.mk (HP.out.below hb); have n1 := Aside0.mk (HT.out.below hb); clear HP HT; have HP := n0; have HT := n1; clear n0 n1; clear hb; have yi0 : W5.cell? ⟨bv, 0, none⟩ = some (.int .i64 cur.f0) := HP.out.cl 1 0 rfl rfl; have yi1 : W5.cell? ⟨bv, 1, none⟩ = some (.bool cur.f1) := HP.out.cl 1 1 rfl rfl; have yi2 : W5.cell? ⟨bv, 2, none⟩ = some (.int .i64 cur.f2) := HP.out.cl 1 2 rfl rfl; have yi3 : W5.cell? ⟨bv, 3, none⟩ = some (.string cur.f3) := HP.out.cl 1 3 rfl rfl; have yi4 : W5.cell? ⟨bv, 4, none⟩ = some (.slice F4 cur.f4.length f4) := HP.out.cl 1 4 rfl rfl; have yi5 : W5.cell? ⟨bv, 5, none⟩ = some (.slice F5 cur.f5.length f5) := HP.out.cl 1 5 rfl rfl)
     clear yh0 yh1 yh2 yh3 yh4 yh5
     go_wp2_with (go_at_call 21; refine (clone_calls k cur F4 f4 F5 f5 r _ HT.out.now HCL.out).mono ?_; rintro e W6 ⟨J4, j4, J5, j5, rfl, hr, hb⟩; have LBR := Aside0.mk (HP.out.lt 0 rfl); have HR := Aside0.mk hr; clear HT hr; have n0 := Aside0.mk (HP.out.below hb); clear HP; have HP := n0; clear n0; clear hb; have yr0 : W6.cell? ⟨br, 0, none⟩ = some (.int .i64 0) := HP.out.cl 0 0 rfl rfl; have yr1 : W6.cell? ⟨br, 1, none⟩ = some (.bool false) := HP.out.cl 0 1 rfl rfl; have yr2 : W6.cell? ⟨br, 2, none⟩ = some (.int .i64 0) := HP.out.cl 0 2 rfl rfl; have yr3 : W6.cell? ⟨br, 3, none⟩ = some (.string ⟨#[]⟩) := HP.out.cl 0 3 rfl rfl; have yr4 : W6.cell? ⟨br, 4, none⟩ = some (.slice none 0 0) := HP.out.cl 0 4 rfl rfl; have yr5 : W6.cell? ⟨br, 5, none⟩ = some (.slice none 0 0) := HP.out.cl 0 5 rfl rfl; have zr0 := HP.out.fz 0 0 rfl; have zr1 := HP.out.fz 0 1 rfl; have zr2 := HP.out.fz 0 2 rfl; have zr3 := HP.out.fz 0 3 rfl; have zr4 := HP.out.fz 0 4 rfl; have zr5 := HP.out.fz 0 5 rfl)
     refine bodyPost_ret (results_ct rfl _ _ br 25 #[.int .i64 r.f0, .bool r.f1, .int .i64 r.f2, .string r.f3, .slice J4 r.f4.length j4, .slice J5 r.f5.length j5] (0, 0) _ rfl (put6 (HP.out.get 0 rfl) _ _ _ _ _ _) Tryz.underlying25 rfl (by kernel_rfl)) rfl ?_
     exact ⟨J4, j4, J5, j5, rfl, (HR.out.six (g := br) (fun q hq => by have := LBR.out; omega) (.int .i64 r.f0) (.bool r.f1) (.int .i64 r.f2) (.string r.f3) (.slice J4 r.f4.length j4) (.slice J5 r.f5.length j5)).now, put6_below HP.out.B (HP.out.low 0 rfl) _ _ _ _ _ _⟩
    | succ k1 =>
     have p0 : 0 ≤ ii := by have := HII.out; omega
     have p1 : ii < (l.length : Int) := by have := HII.out; have := HI.out; omega
     have q0 : decide (0 ≤ ii) = true := decide_eq_true p0
     have q1 : decide (ii < (l.length : Int)) = true := decide_eq_true p1
     have n0 := Aside0.mk (show capp k (rd_T69 l ii :: l.drop (i + 1)) cur = some x by have h_ := HAP.out; rw [rd69_drop (by have := HI.out; omega), ← HII.out] at h_; exact h_)
     clear HAP
     have HAP := n0
     clear n0
     obtain ⟨ad, X4, X4c, X5, X5c, e_, x0, x1, x2, x3, x4, x5, x6, x7, hrd⟩ := at_T69 HL.out ii p0 p1
     cases e_
     have hm_ := rd69_in (l := l) p0 p1
     generalize rd_T69 l ii = cc at x0 x1 x2 x3 x4 x5 x6 x7 hrd hm_ HAP
     have HX := Aside0.mk hrd.F
     have HOK := Aside0.mk (HIT.out cc hm_)
     clear hrd hm_
     replace x0 := (HP.out.B.cell (World.block_lt_of_cell? w _ x0)).trans x0
     replace x1 := (HP.out.B.cell (World.block_lt_of_cell? w _ x1)).trans x1
     replace x2 := (HP.out.B.cell (World.block_lt_of_cell? w _ x2)).trans x2
     replace x3 := (HP.out.B.cell (World.block_lt_of_cell? w _ x3)).trans x3
     replace x4 := (HP.out.B.cell (World.block_lt_of_cell? w _ x4)).trans x4
     replace x5 := (HP.out.B.cell (World.block_lt_of_cell? w _ x5)).trans x5
     replace x6 := (HP.out.B.cell (World.block_lt_of_cell? w _ x6)).trans x6
     replace x7 := (HP.out.B.cell (World.block_lt_of_cell? w _ x7)).trans x7
     replace p0 := eq_true p0
     replace p1 := eq_true p1
     have H1 := HAP.out
     clear HAP
     rw [capp] at H1
     obtain ⟨⟨st, sok⟩, hst, H1⟩ := Option.bind_eq_some_iff.1 H1
     obtain ⟨y, hy, H1⟩ := Option.bind_eq_some_iff.1 H1
     have HAP := Aside0.mk H1
     have HST := Aside0.mk hst
     have HY := Aside0.mk hy
     clear H1 hst hy
     go_upto_region 14 with (((with_reducible refine gate_dst (N := 11) rfl ?_); refine box_event ?hg (N := 11) ?hd (cs := #[.string ⟨#[]⟩, .int .i64 0, .bool false, .int .i64 0, .string ⟨#[]⟩, .slice none 0 0, .slice none 0 0, .bool false]) (t := 69) ?hr ?_; (case hd => rfl); (case hg => rfl); (case hr => first | (go_simp; done) | (go_simp; rfl)); intro bc hg_ W4 hbox hb; have n0 := Aside0.mk (HP.out.new hg_ hbox hb); have n1 := Aside0.mk (HT.out.bound.below hb); have n2 := Aside0.mk ((show _ = bc from hg_.symm)); clear HP HT; have HP := n0; have HT := n1; have HGE := n2; clear n0 n1 n2; clear hg_ hbox hb; have yz0 : W4.cell? ⟨bc, 0, none⟩ = some (.string ⟨#[]⟩) := HP.out.cl 0 0 rfl rfl; have yz1 : W4.cell? ⟨bc, 1, none⟩ = some (.int .i64 0) := HP.out.cl 0 1 rfl rfl; have yz2 : W4.cell? ⟨bc, 2, none⟩ = some (.bool false) := HP.out.cl 0 2 rfl rfl; have yz3 : W4.cell? ⟨bc, 3, none⟩ = some (.int .i64 0) := HP.out.cl 0 3 rfl rfl; have yz4 : W4.cell? ⟨bc, 4, none⟩ = some (.string ⟨#[]⟩) := HP.out.cl 0 4 rfl rfl; have yz5 : W4.cell? ⟨bc, 5, none⟩ = some (.slice none 0 0) := HP.out.cl 0 5 rfl rfl; have yz6 : W4.cell? ⟨bc, 6, none⟩ = some (.slice none 0 0) := HP.out.cl 0 6 rfl rfl; have yz7 : W4.cell? ⟨bc, 7, none⟩ = some (.bool false) := HP.out.cl 0 7 rfl rfl; have zz0 := HP.out.fz 0 0 rfl; have zz1 := HP.out.fz 0 1 rfl; have zz2 := HP.out.fz 0 2 rfl; have zz3 := HP.out.fz 0 3 rfl; have zz4 := HP.out.fz 0 4 rfl; have zz5 := HP.out.fz 0 5 rfl; have zz6 := HP.out.fz 0 6 rfl; have zz7 := HP.out.fz 0 7 rfl))
     have n0 := Aside0.mk (HP.out.eight 0 rfl (.string cc.f0) (.int .i64 cc.f1.f0) (.bool cc.f1.f1) (.int .i64 cc.f1.f2) (.string cc.f1.f3) (.slice X4 cc.f1.f4.length X4c) (.slice X5 cc.f1.f5.length X5c) (.bool cc.f2))
     have n1 := Aside0.mk ((HT.out.step (fun q hq hlt => ei_same (g := bc) (k := q) (by have := hq.2; have := HGE.out; omega) (.string cc.f0) (.int .i64 cc.f1.f0) (.bool cc.f1.f1) (.int .i64 cc.f1.f2) (.string cc.f1.f3) (.slice X4 cc.f1.f4.length X4c) (.slice X5 cc.f1.f5.length X5c) (.bool cc.f2))).mono (fun q hq => hq.1))
     clear HP HT
     have HP := n0
     have HT := n1
     clear n0 n1
     clear HGE yz0 zz0 x0 yz1 zz1 x1 yz2 zz2 x2 yz3 zz3 x3 yz4 zz4 x4 yz5 zz5 x5 yz6 zz6 x6 yz7 zz7 x7
     generalize ((((((((W4.setCell ⟨bc, 0, none⟩ (.string cc.f0)).setCell ⟨bc, 1, none⟩ (.int .i64 cc.f1.f0)).setCell ⟨bc, 2, none⟩ (.bool cc.f1.f1)).setCell ⟨bc, 3, none⟩ (.int .i64 cc.f1.f2)).setCell ⟨bc, 4, none⟩ (.string cc.f1.f3)).setCell ⟨bc, 5, none⟩ (.slice X4 cc.f1.f4.length X4c)).setCell ⟨bc, 6, none⟩ (.slice X5 cc.f1.f5.length X5c)).setCell ⟨bc, 7, none⟩ (.bool cc.f2)) = W5 at HP HT ⊢
     have yc0 : W5.cell? ⟨bc, 0, none⟩ = some (.string cc.f0) := HP.out.cl 0 0 rfl rfl
     go_upto_region 16 with (go_at_call 19; refine (steps_calls k cc.f0 false st sok _ HST.out).mono ?_; rintro e W6 ⟨A1, k1_, rfl, hC, hlk, hb⟩; have HSC := Aside0.mk hC; have HSL := Aside0.mk hlk; have n0 := Aside0.mk (HP.out.below hb); have n1 := Aside0.mk (HT.out.below hb); clear HP HT; have HP := n0; have HT := n1; clear n0 n1; clear hb hC hlk)
     clear yc0
     have yc0 : W6.cell? ⟨bc, 0, none⟩ = some (.string cc.f0) := HP.out.cl 0 0 rfl rfl
     have yc1 : W6.cell? ⟨bc, 1, none⟩ = some (.int .i64 cc.f1.f0) := HP.out.cl 0 1 rfl rfl
     have yc2 : W6.cell? ⟨bc, 2, none⟩ = some (.bool cc.f1.f1) := HP.out.cl 0 2 rfl rfl
     have yc3 : W6.cell? ⟨bc, 3, none⟩ = some (.int .i64 cc.f1.f2) := HP.out.cl 0 3 rfl rfl
     have yc4 : W6.cell? ⟨bc, 4, none⟩ = some (.string cc.f1.f3) := HP.out.cl 0 4 rfl rfl
     have yc5 : W6.cell? ⟨bc, 5, none⟩ = some (.slice X4 cc.f1.f4.length X4c) := HP.out.cl 0 5 rfl rfl
     have yc6 : W6.cell? ⟨bc, 6, none⟩ = some (.slice X5 cc.f1.f5.length X5c) := HP.out.cl 0 6 rfl rfl
     have yc7 : W6.cell? ⟨bc, 7, none⟩ = some (.bool cc.f2) := HP.out.cl 0 7 rfl rfl
     cases hg_ : cc.f2 with
     | true =>
      have hy := HY.out
      rw [hg_, if_pos rfl] at hy
      have HYR := Aside0.mk hy
      rw [hg_] at yc7
      have HG_ := Aside0.mk hg_
      clear hy hg_ HY
      have yv0 : W6.cell? ⟨bv, 0, none⟩ = some (.int .i64 cur.f0) := HP.out.cl 2 0 rfl rfl
      have yv1 : W6.cell? ⟨bv, 1, none⟩ = some (.bool cur.f1) := HP.out.cl 2 1 rfl rfl
      have yv2 : W6.cell? ⟨bv, 2, none⟩ = some (.int .i64 cur.f2) := HP.out.cl 2 2 rfl rfl
      have yv3 : W6.cell? ⟨bv, 3, none⟩ = some (.string cur.f3) := HP.out.cl 2 3 rfl rfl
      have yv4 : W6.cell? ⟨bv, 4, none⟩ = some (.slice F4 cur.f4.length f4) := HP.out.cl 2 4 rfl rfl
      have yv5 : W6.cell? ⟨bv, 5, none⟩ = some (.slice F5 cur.f5.length f5) := HP.out.cl 2 5 rfl rfl
      go_wp2_with (go_at_call 27; refine (remove_calls st cur F4 f4 F5 f5 A1 k1_ y _ (fun q => q < w.heap.size ∨ br < q) HT.out HSC.out HSL.out HYR.out).mono ?_; rintro e W7 ⟨J4, j4, J5, j5, rfl, hr, hb⟩; have LT3 := Aside0.mk (HP.out.lt 1 rfl); have HR := Aside0.mk (hr.mono (ok' := (fun q => q < w.heap.size ∨ br < q)) (fun q hq => hq.elim (fun h_ => h_) (fun h_ => .inr (by have := LT3.out; omega)))); clear HT hr; have n0 := Aside0.mk (HP.out.below hb); clear HP; have HP := n0; clear n0; clear hb; have yw0 : W7.cell? ⟨bv, 0, none⟩ = some (.int .i64 cur.f0) := HP.out.cl 2 0 rfl rfl; have yw1 : W7.cell? ⟨bv, 1, none⟩ = some (.bool cur.f1) := HP.out.cl 2 1 rfl rfl; have yw2 : W7.cell? ⟨bv, 2, none⟩ = some (.int .i64 cur.f2) := HP.out.cl 2 2 rfl rfl; have yw3 : W7.cell? ⟨bv, 3, none⟩ = some (.string cur.f3) := HP.out.cl 2 3 rfl rfl; have yw4 : W7.cell? ⟨bv, 4, none⟩ = some (.slice F4 cur.f4.length f4) := HP.out.cl 2 4 rfl rfl; have yw5 : W7.cell? ⟨bv, 5, none⟩ = some (.slice F5 cur.f5.length f5) := HP.out.cl 2 5 rfl rfl; have zw0 := HP.out.fz 2 0 rfl; have zw1 := HP.out.fz 2 1 rfl; have zw2 := HP.out.fz 2 2 rfl; have zw3 := HP.out.fz 2 3 rfl; have zw4 := HP.out.fz 2 4 rfl; have zw5 := HP.out.fz 2 5 rfl)
      go_roundg k1
      case measure => omega
      case rel => exact ⟨_, i + 1, y, J4, j4, J5, j5, rfl, ⟨by have h0_ := HLN.out; have h1_ := HII.out; have h2_ := HI.out; unfold wrap64; omega⟩, ⟨by have := HI.out; omega⟩, HAP, ⟨HR.out.six (g := bv) (fun q hq => by have h1_ := LBV.out; have h2_ := GBV.out; rcases hq with h_ | h_ <;> omega) (.int .i64 y.f0) (.bool y.f1) (.int .i64 y.f2) (.string y.f3) (.slice J4 y.f4.length j4) (.slice J5 y.f5.length j5)⟩, ⟨(HP.out.six 2 rfl (.int .i64 y.f0) (.bool y.f1) (.int .i64 y.f2) (.string y.f3) (.slice J4 y.f4.length j4) (.slice J5 y.f5.length j5)).tail⟩⟩
     | false =>
      have hy := HY.out
      rw [hg_, if_neg (by decide)] at hy
      obtain ⟨⟨y', ye⟩, hys, hy⟩ := Option.bind_eq_some_iff.1 hy
      by_cases hye : ye = 0
      case neg => rw [if_neg hye] at hy; cases hy
      rw [if_pos hye] at hy
      injection hy with hy
      dsimp only at hy hye
      rw [hy, hye] at hys
      have HYR := Aside0.mk hys
      clear hye hy
      rw [hg_] at yc7
      have HG_ := Aside0.mk hg_
      have HB0 := Aside0.mk HP.out.B
      clear hys hg_ HY y' ye
      have yv0 : W6.cell? ⟨bv, 0, none⟩ = some (.int .i64 cur.f0) := HP.out.cl 2 0 rfl rfl
      have yv1 : W6.cell? ⟨bv, 1, none⟩ = some (.bool cur.f1) := HP.out.cl 2 1 rfl rfl
      have yv2 : W6.cell? ⟨bv, 2, none⟩ = some (.int .i64 cur.f2) := HP.out.cl 2 2 rfl rfl
      have yv3 : W6.cell? ⟨bv, 3, none⟩ = some (.string cur.f3) := HP.out.cl 2 3 rfl rfl
      have yv4 : W6.cell? ⟨bv, 4, none⟩ = some (.slice F4 cur.f4.length f4) := HP.out.cl 2 4 rfl rfl
      have yv5 : W6.cell? ⟨bv, 5, none⟩ = some (.slice F5 cur.f5.length f5) := HP.out.cl 2 5 rfl rfl
      go_wp2_with (go_at_call 20; refine (set_calls st cur F4 f4 F5 f5 A1 k1_ cc.f1 X4 X4c X5 X5c (y, 0) _ (fun q => q < w.heap.size ∨ br < q) HT.out HSC.out HSL.out ((HX.out.below (HB0.out)).mono (fun q hq => .inl hq)) HYR.out).mono ?_; rintro e W7 ⟨J4, j4, J5, j5, rfl, hr, hb⟩; have LT3 := Aside0.mk (HP.out.lt 1 rfl); have HR := Aside0.mk (hr.mono (ok' := (fun q => q < w.heap.size ∨ br < q)) (fun q hq => hq.elim (fun h_ => h_) (fun h_ => .inr (by have := LT3.out; omega)))); clear HT hr; have n0 := Aside0.mk (HP.out.below hb); clear HP; have HP := n0; clear n0; clear hb; have yw0 : W7.cell? ⟨bv, 0, none⟩ = some (.int .i64 cur.f0) := HP.out.cl 2 0 rfl rfl; have yw1 : W7.cell? ⟨bv, 1, none⟩ = some (.bool cur.f1) := HP.out.cl 2 1 rfl rfl; have yw2 : W7.cell? ⟨bv, 2, none⟩ = some (.int .i64 cur.f2) := HP.out.cl 2 2 rfl rfl; have yw3 : W7.cell? ⟨bv, 3, none⟩ = some (.string cur.f3) := HP.out.cl 2 3 rfl rfl; have yw4 : W7.cell? ⟨bv, 4, none⟩ = some (.slice F4 cur.f4.length f4) := HP.out.cl 2 4 rfl rfl; have yw5 : W7.cell? ⟨bv, 5, none⟩ = some (.slice F5 cur.f5.length f5) := HP.out.cl 2 5 rfl rfl; have zw0 := HP.out.fz 2 0 rfl; have zw1 := HP.out.fz 2 1 rfl; have zw2 := HP.out.fz 2 2 rfl; have zw3 := HP.out.fz 2 3 rfl; have zw4 := HP.out.fz 2 4 rfl; have zw5 := HP.out.fz 2 5 rfl)
      go_roundg k1
      case measure => omega
      case rel => exact ⟨_, i + 1, y, J4, j4, J5, j5, rfl, ⟨by have h0_ := HLN.out; have h1_ := HII.out; have h2_ := HI.out; unfold wrap64; omega⟩, ⟨by have := HI.out; omega⟩, HAP, ⟨HR.out.six (g := bv) (fun q hq => by have h1_ := LBV.out; have h2_ := GBV.out; rcases hq with h_ | h_ <;> omega) (.int .i64 y.f0) (.bool y.f1) (.int .i64 y.f2) (.string y.f3) (.slice J4 y.f4.length j4) (.slice J5 y.f5.length j5)⟩, ⟨(HP.out.six 2 rfl (.int .i64 y.f0) (.bool y.f1) (.int .i64 y.f2) (.string y.f3) (.slice J4 y.f4.length j4) (.slice J5 y.f5.length j5)).tail⟩⟩
end Go.Proofs.YtlofkjdcapbohaaGreatDoor.PConfKeeps
