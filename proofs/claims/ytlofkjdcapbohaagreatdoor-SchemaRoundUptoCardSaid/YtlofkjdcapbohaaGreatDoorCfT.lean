/- For the law SchemaRound: ReadSchema, walked where all is right. No condition. -/
import Derived.Test.YtlofkjdcapbohaaGreatDoorCfS
namespace Go.Proofs.YtlofkjdcapbohaaGreatDoor.PConfKeeps
open Go.RowKit Go.Proofs.YtlofkjdcapbohaaGreatDoorW.PrintWords Go.Proofs.YtlofkjdcapbohaaGreatDoorW.PrintLast Go.Proofs.YtlofkjdcapbohaaGreatDoorW.PrintMore
set_option linter.unusedVariables false
set_option linter.unusedSimpArgs false

theorem info44' : (Tryz.prog.info? 44).map (fun i => (i.zero, i.size, i.bytes)) = some (some (.agg #[.string ⟨#[]⟩, .int .i64 0, .bool false, .bool false, .int .i64 0, .int .i64 0, .slice none 0 0, .int .i64 0, .bool false, .int .i64 0, .string ⟨#[]⟩, .slice none 0 0, .slice none 0 0]), 13, 160) := by kernel_rfl
theorem k44_mkF (W : World) (ok : Nat → Prop) (x : S44) {A6 : Option Addr} {c6 : Nat} {A11 : Option Addr} {c11 : Nat} {A12 : Option Addr} {c12 : Nat} (l6 : x.f6.length ≤ c6) (g6 : Kd.F Kd.string W ok A6 x.f6.length x.f6) (g7 : RdF W ok x.f7 A11 c11 A12 c12) : Kd.FK k44 W ok x [.string x.f0, .int .i64 x.f1, .bool x.f2, .bool x.f3, .int .i64 x.f4, .int .i64 x.f5, .slice A6 x.f6.length c6, .int .i64 x.f7.f0, .bool x.f7.f1, .int .i64 x.f7.f2, .string x.f7.f3, .slice A11 x.f7.f4.length c11, .slice A12 x.f7.f5.length c12] := fun W2 hW =>
 ⟨_, _, rfl, rfl, ⟨_, _, rfl, rfl, ⟨_, _, rfl, rfl, ⟨_, _, rfl, rfl, ⟨_, _, rfl, rfl, ⟨_, _, rfl, rfl, ⟨_, _, rfl, ⟨A6, c6, rfl, l6, g6 W2 hW⟩, k25_mkF W ok x.f7 g7.2.1 g7.1 g7.2.2.2 g7.2.2.1 W2 hW⟩⟩⟩⟩⟩⟩⟩
section
variable {w W : World} {g t : Nat} {l : List (Nat × Array Value × Nat)}
theorem Bs.two {c0 c1 : Value} (h : Bs w W l) (i : Nat) (hi : l[i]? = some (g, #[c0, c1], t)) (v0 v1 : Value) : Bs w ((W.setCell ⟨g, 0, none⟩ v0).setCell ⟨g, 1, none⟩ v1) (l.set i (g, #[v0, v1], t)) := by
 obtain ⟨a0, b0⟩ := h.put' i hi 0 v0 (cs' := #[v0, c1]) rfl
 obtain ⟨a1, b1⟩ := a0.put' i b0 1 v1 (cs' := #[v0, v1]) rfl
 rw [List.set_set] at a1
 exact a1
theorem two_same {k : Nat} (hk : k ≠ g) (v0 v1 : Value) : ((W.setCell ⟨g, 0, none⟩ v0).setCell ⟨g, 1, none⟩ v1).heap[k]? = W.heap[k]? := (Below.heap_setCell _ _ _ _ hk).trans (Below.heap_setCell _ _ _ _ hk)
theorem Bs.apartN {α : Type} {d : Kd α} {e base : Nat} {ok : Nat → Prop} {v : Value} {xs : List α} (h : Bs w W l) (ho : Kd.N d e W base ok v xs) (ht : l.all (fun p => p.2.2 != e) = true) : ∀ (i : Nat) (p : Nat × Array Value × Nat), l[i]? = some p → some p.1 ≠ v.ownBlock := fun i p hp =>
 Kd.N_ne ho (h.blk i p hp) (fun he => by
  have := List.all_eq_true.1 ht p (List.mem_of_getElem? hp)
  rw [bne_iff_ne] at this
  exact this he.symm)
end
theorem rd44n {l : List S44} {i : Nat} (h : i < l.length) : l.take (i + 1) = l.take i ++ [rd_T44 l (i : Int)] := by
 rw [List.take_succ_eq_append_getElem h]
 unfold rd_T44
 rw [Int.toNat_natCast, List.getD_eq_getElem?_getD, List.getElem?_eq_getElem h]; rfl
set_option maxHeartbeats 8000000 in
set_option maxRecDepth 100000 in
theorem RSch_calls (k : Nat) (v : S25) (A4 : Option Addr) (c4 : Nat) (A5 : Option Addr) (c5 : Nat) (l : List S44) (F a : S25) (b1 b2 : Bool) (w : World) (hkn : KN w) (hv : Rd w v A4 c4 A5 c5) (h : RS k v l F a b1 b2) :
  Calls Tryz.prog 16 #[.agg #[.int .i64 v.f0, .bool v.f1, .int .i64 v.f2, .string v.f3, .slice A4 v.f4.length c4, .slice A5 v.f5.length c5]] w fun e w' => ∃ A c, e = .returned (.tuple #[.agg #[.slice A l.length c, .bool a.f1], .int .i64 0]) ∧ l.length ≤ c ∧ Kd.C k44 w' A l.length l ∧ Below w.heap.size w w' := by
 have hu44 := Tryz.underlying44
 have hu41 := Tryz.underlying41
 have hu25 := Tryz.underlying25
 have HKN := Aside0.mk hkn
 have HV := Aside0.mk hv.F
 have HP := Aside0.mk (Bs.nil w)
 have HCK := Aside0.mk h.ck
 have HWK := Aside0.mk h.wk
 have HWN := Aside0.mk h.wn
 have HLN := Aside0.mk h.n
 have HIT := Aside0.mk h.it
 have HCS := Aside0.mk h.cs
 have HSZ := Aside0.mk h.sz
 clear hkn hv h
 go_enter Tryz.func16, Tryz.ntmps16
 go_upto_region 1 with (first | ((with_reducible refine gate_dst (N := 1) rfl ?_); refine box_event ?hg (N := 1) ?hd (cs := #[.int .i64 v.f0, .bool v.f1, .int .i64 v.f2, .string v.f3, .slice A4 v.f4.length c4, .slice A5 v.f5.length c5]) (t := 25) ?hr ?_; (case hd => rfl); (case hg => rfl); (case hr => first | (go_simp; done) | (go_simp; rfl)); intro bv hg_ W1 hbox hb; have n0 := Aside0.mk (HP.out.new hg_ hbox hb); clear HP; have HP := n0; clear n0; clear hg_ hbox hb) | ((with_reducible refine gate_dst (N := 2) rfl ?_); refine box_event ?hg (N := 2) ?hd (cs := #[.slice none 0 0, .bool false]) (t := 41) ?hr ?_; (case hd => rfl); (case hg => rfl); (case hr => first | (go_simp; done) | (go_simp; rfl)); intro br hg_ W2 hbox hb; have n0 := Aside0.mk (HP.out.new hg_ hbox hb); clear HP; have HP := n0; clear n0; clear hg_ hbox hb))
 have yv0 : W2.cell? ⟨bv, 0, none⟩ = some (.int .i64 v.f0) := HP.out.cl 1 0 rfl rfl
 have yv1 : W2.cell? ⟨bv, 1, none⟩ = some (.bool v.f1) := HP.out.cl 1 1 rfl rfl
 have yv2 : W2.cell? ⟨bv, 2, none⟩ = some (.int .i64 v.f2) := HP.out.cl 1 2 rfl rfl
 have yv3 : W2.cell? ⟨bv, 3, none⟩ = some (.string v.f3) := HP.out.cl 1 3 rfl rfl
 have yv4 : W2.cell? ⟨bv, 4, none⟩ = some (.slice A4 v.f4.length c4) := HP.out.cl 1 4 rfl rfl
 have yv5 : W2.cell? ⟨bv, 5, none⟩ = some (.slice A5 v.f5.length c5) := HP.out.cl 1 5 rfl rfl
 go_upto_region 4 with (go_at_call 18; refine (check_calls k v A4 c4 A5 c5 0 _ (HV.out.below HP.out.B).now HCK.out).mono ?_; rintro e w3 ⟨rfl, hb⟩; have n0 := Aside0.mk (HP.out.below hb); clear HP; have HP := n0; clear n0; clear hb; have ya0 : w3.cell? ⟨bv, 0, none⟩ = some (.int .i64 v.f0) := HP.out.cl 1 0 rfl rfl; have ya1 : w3.cell? ⟨bv, 1, none⟩ = some (.bool v.f1) := HP.out.cl 1 1 rfl rfl; have ya2 : w3.cell? ⟨bv, 2, none⟩ = some (.int .i64 v.f2) := HP.out.cl 1 2 rfl rfl; have ya3 : w3.cell? ⟨bv, 3, none⟩ = some (.string v.f3) := HP.out.cl 1 3 rfl rfl; have ya4 : w3.cell? ⟨bv, 4, none⟩ = some (.slice A4 v.f4.length c4) := HP.out.cl 1 4 rfl rfl; have ya5 : w3.cell? ⟨bv, 5, none⟩ = some (.slice A5 v.f5.length c5) := HP.out.cl 1 5 rfl rfl)
 clear yv0 yv1 yv2 yv3 yv4 yv5
 go_upto_region 6 with (go_at_call 34; refine (wrongKinds_calls v A4 c4 A5 c5 F a b1 b2 _ (HV.out.below HP.out.B).now HWK.out).mono ?_; rintro e w4 ⟨rfl, hb⟩; have n0 := Aside0.mk (HP.out.below hb); clear HP; have HP := n0; clear n0; clear hb; have yb0 : w4.cell? ⟨bv, 0, none⟩ = some (.int .i64 v.f0) := HP.out.cl 1 0 rfl rfl; have yb1 : w4.cell? ⟨bv, 1, none⟩ = some (.bool v.f1) := HP.out.cl 1 1 rfl rfl; have yb2 : w4.cell? ⟨bv, 2, none⟩ = some (.int .i64 v.f2) := HP.out.cl 1 2 rfl rfl; have yb3 : w4.cell? ⟨bv, 3, none⟩ = some (.string v.f3) := HP.out.cl 1 3 rfl rfl; have yb4 : w4.cell? ⟨bv, 4, none⟩ = some (.slice A4 v.f4.length c4) := HP.out.cl 1 4 rfl rfl; have yb5 : w4.cell? ⟨bv, 5, none⟩ = some (.slice A5 v.f5.length c5) := HP.out.cl 1 5 rfl rfl)
 clear ya0 ya1 ya2 ya3 ya4 ya5
 go_upto_region 8 with (go_at_call 35; refine (wrongNames_calls v A4 c4 A5 c5 F b2 _ (HKN.out.below HP.out.B) (HV.out.below HP.out.B).now HWN.out).mono ?_; rintro e w5 ⟨rfl, hb⟩; have n0 := Aside0.mk (HP.out.below hb); clear HP; have HP := n0; clear n0; clear hb; have yc0 : w5.cell? ⟨bv, 0, none⟩ = some (.int .i64 v.f0) := HP.out.cl 1 0 rfl rfl; have yc1 : w5.cell? ⟨bv, 1, none⟩ = some (.bool v.f1) := HP.out.cl 1 1 rfl rfl; have yc2 : w5.cell? ⟨bv, 2, none⟩ = some (.int .i64 v.f2) := HP.out.cl 1 2 rfl rfl; have yc3 : w5.cell? ⟨bv, 3, none⟩ = some (.string v.f3) := HP.out.cl 1 3 rfl rfl; have yc4 : w5.cell? ⟨bv, 4, none⟩ = some (.slice A4 v.f4.length c4) := HP.out.cl 1 4 rfl rfl; have yc5 : w5.cell? ⟨bv, 5, none⟩ = some (.slice A5 v.f5.length c5) := HP.out.cl 1 5 rfl rfl)
 clear yb0 yb1 yb2 yb3 yb4 yb5
 go_upto_region 9 with (first | (go_at_call 36; refine (item_calls v A4 c4 A5 c5 ⟨#[115, 116, 114, 105, 99, 116]⟩ (a, b1) _ (fun k => k < w.heap.size) (HV.out.below HP.out.B) HWK.out.st).mono ?_; rintro e w6 ⟨G4, g4, G5, g5, rfl, hr, hb⟩; have n0 := Aside0.mk (HP.out.below hb); clear HP; have HP := n0; clear n0; clear hb; skip; clear hr) | ((with_reducible refine gate_dst (N := 5) rfl ?_); refine box_event ?hg (N := 5) ?hd (cs := #[.int .i64 0, .bool false, .int .i64 0, .string ⟨#[]⟩, .slice none 0 0, .slice none 0 0]) (t := 25) ?hr ?_; (case hd => rfl); (case hg => rfl); (case hr => first | (go_simp; done) | (go_simp; rfl)); intro bA hg_ W7 hbox hb; have n0 := Aside0.mk (HP.out.new hg_ hbox hb); clear HP; have HP := n0; clear n0; clear hg_ hbox hb; have yz0 : W7.cell? ⟨bA, 0, none⟩ = some (.int .i64 0) := HP.out.cl 0 0 rfl rfl; have yz1 : W7.cell? ⟨bA, 1, none⟩ = some (.bool false) := HP.out.cl 0 1 rfl rfl; have yz2 : W7.cell? ⟨bA, 2, none⟩ = some (.int .i64 0) := HP.out.cl 0 2 rfl rfl; have yz3 : W7.cell? ⟨bA, 3, none⟩ = some (.string ⟨#[]⟩) := HP.out.cl 0 3 rfl rfl; have yz4 : W7.cell? ⟨bA, 4, none⟩ = some (.slice none 0 0) := HP.out.cl 0 4 rfl rfl; have yz5 : W7.cell? ⟨bA, 5, none⟩ = some (.slice none 0 0) := HP.out.cl 0 5 rfl rfl; have zz0 := HP.out.fz 0 0 rfl; have zz1 := HP.out.fz 0 1 rfl; have zz2 := HP.out.fz 0 2 rfl; have zz3 := HP.out.fz 0 3 rfl; have zz4 := HP.out.fz 0 4 rfl; have zz5 := HP.out.fz 0 5 rfl))
 have n0 := Aside0.mk (HP.out.six 0 rfl (.int .i64 a.f0) (.bool a.f1) (.int .i64 a.f2) (.string a.f3) (.slice G4 a.f4.length g4) (.slice G5 a.f5.length g5))
 clear HP
 have HP := n0
 clear n0
 clear yz0 zz0 yc0 yz1 zz1 yc1 yz2 zz2 yc2 yz3 zz3 yc3 yz4 zz4 yc4 yz5 zz5 yc5
 generalize ((((((W7.setCell ⟨bA, 0, none⟩ (.int .i64 a.f0)).setCell ⟨bA, 1, none⟩ (.bool a.f1)).setCell ⟨bA, 2, none⟩ (.int .i64 a.f2)).setCell ⟨bA, 3, none⟩ (.string a.f3)).setCell ⟨bA, 4, none⟩ (.slice G4 a.f4.length g4)).setCell ⟨bA, 5, none⟩ (.slice G5 a.f5.length g5)) = W8 at HP ⊢
 have yd0 : W8.cell? ⟨bv, 0, none⟩ = some (.int .i64 v.f0) := HP.out.cl 2 0 rfl rfl
 have yd1 : W8.cell? ⟨bv, 1, none⟩ = some (.bool v.f1) := HP.out.cl 2 1 rfl rfl
 have yd2 : W8.cell? ⟨bv, 2, none⟩ = some (.int .i64 v.f2) := HP.out.cl 2 2 rfl rfl
 have yd3 : W8.cell? ⟨bv, 3, none⟩ = some (.string v.f3) := HP.out.cl 2 3 rfl rfl
 have yd4 : W8.cell? ⟨bv, 4, none⟩ = some (.slice A4 v.f4.length c4) := HP.out.cl 2 4 rfl rfl
 have yd5 : W8.cell? ⟨bv, 5, none⟩ = some (.slice A5 v.f5.length c5) := HP.out.cl 2 5 rfl rfl
 go_upto_region 10 with (first | (go_at_call 36; refine (item_calls v A4 c4 A5 c5 ⟨#[102, 105, 101, 108, 100, 115]⟩ (F, b2) _ (fun k => k < w.heap.size) (HV.out.below HP.out.B) HWK.out.fl).mono ?_; rintro e w9 ⟨E4, e4, E5, e5, rfl, hr, hb⟩; have n0 := Aside0.mk (HP.out.below hb); clear HP; have HP := n0; clear n0; clear hb; have HF := Aside0.mk (hr.back HP.out.B (fun k hk => hk)); clear hr) | ((with_reducible refine gate_dst (N := 7) rfl ?_); refine box_event ?hg (N := 7) ?hd (cs := #[.int .i64 0, .bool false, .int .i64 0, .string ⟨#[]⟩, .slice none 0 0, .slice none 0 0]) (t := 25) ?hr ?_; (case hd => rfl); (case hg => rfl); (case hr => first | (go_simp; done) | (go_simp; rfl)); intro bF hg_ W10 hbox hb; have n0 := Aside0.mk (HP.out.new hg_ hbox hb); clear HP; have HP := n0; clear n0; clear hg_ hbox hb; have yz0 : W10.cell? ⟨bF, 0, none⟩ = some (.int .i64 0) := HP.out.cl 0 0 rfl rfl; have yz1 : W10.cell? ⟨bF, 1, none⟩ = some (.bool false) := HP.out.cl 0 1 rfl rfl; have yz2 : W10.cell? ⟨bF, 2, none⟩ = some (.int .i64 0) := HP.out.cl 0 2 rfl rfl; have yz3 : W10.cell? ⟨bF, 3, none⟩ = some (.string ⟨#[]⟩) := HP.out.cl 0 3 rfl rfl; have yz4 : W10.cell? ⟨bF, 4, none⟩ = some (.slice none 0 0) := HP.out.cl 0 4 rfl rfl; have yz5 : W10.cell? ⟨bF, 5, none⟩ = some (.slice none 0 0) := HP.out.cl 0 5 rfl rfl; have zz0 := HP.out.fz 0 0 rfl; have zz1 := HP.out.fz 0 1 rfl; have zz2 := HP.out.fz 0 2 rfl; have zz3 := HP.out.fz 0 3 rfl; have zz4 := HP.out.fz 0 4 rfl; have zz5 := HP.out.fz 0 5 rfl))
 have n0 := Aside0.mk (HP.out.six 0 rfl (.int .i64 F.f0) (.bool F.f1) (.int .i64 F.f2) (.string F.f3) (.slice E4 F.f4.length e4) (.slice E5 F.f5.length e5))
 clear HP
 have HP := n0
 clear n0
 clear yz0 zz0 yd0 yz1 zz1 yd1 yz2 zz2 yd2 yz3 zz3 yd3 yz4 zz4 yd4 yz5 zz5 yd5
 generalize ((((((W10.setCell ⟨bF, 0, none⟩ (.int .i64 F.f0)).setCell ⟨bF, 1, none⟩ (.bool F.f1)).setCell ⟨bF, 2, none⟩ (.int .i64 F.f2)).setCell ⟨bF, 3, none⟩ (.string F.f3)).setCell ⟨bF, 4, none⟩ (.slice E4 F.f4.length e4)).setCell ⟨bF, 5, none⟩ (.slice E5 F.f5.length e5)) = W11 at HP ⊢
 have ya1 : W11.cell? ⟨bA, 1, none⟩ = some (.bool a.f1) := HP.out.cl 1 1 rfl rfl
 go_upto_region 11 with (((with_reducible refine gate_dst (N := 9) rfl ?_); refine box_event ?hg (N := 9) ?hd (cs := #[.slice none 0 0, .bool false]) (t := 41) ?hr ?_; (case hd => rfl); (case hg => rfl); (case hr => first | (go_simp; done) | (go_simp; rfl)); intro b9 hg_ W12 hbox hb; have n0 := Aside0.mk (HP.out.new hg_ hbox hb); clear HP; have HP := n0; clear n0; clear hg_ hbox hb; have yz0 : W12.cell? ⟨b9, 0, none⟩ = some (.slice none 0 0) := HP.out.cl 0 0 rfl rfl; have yz1 : W12.cell? ⟨b9, 1, none⟩ = some (.bool false) := HP.out.cl 0 1 rfl rfl; have zz0 := HP.out.fz 0 0 rfl; have zz1 := HP.out.fz 0 1 rfl))
 have n0 := Aside0.mk (HP.out.two 0 rfl (.slice none 0 0) (.bool a.f1))
 clear HP
 have HP := n0
 clear n0
 clear ya1 yz0 yz1 zz0 zz1
 generalize (W12.setCell ⟨b9, 0, none⟩ (.slice none 0 0)).setCell ⟨b9, 1, none⟩ (.bool a.f1) = W13 at HP ⊢
 have yf4 : W13.cell? ⟨bF, 4, none⟩ = some (.slice E4 F.f4.length e4) := HP.out.cl 1 4 rfl rfl
 have LB9 := Aside0.mk (HP.out.lt 0 rfl)
 have LBR := Aside0.mk (show br < b9 from HP.out.nd 0 3 _ _ (by omega) rfl rfl)
 have HN := Aside0.mk (Kd.N_nil k44 44 W13 W13.heap.size (fun k => b9 < k))
 obtain ⟨nb, hnb⟩ : ∃ nb, nb = W13.heap.size := ⟨_, rfl⟩
 rw [← hnb] at HN LB9
 have HS4 := Aside0.mk (show nb ≤ W13.heap.size by omega)
 clear hnb
 go_wp2_with fail
 go_loopg [41] F.f4.length (fun kq v_ w' => ∃ (ii : Int) (i : Nat) (vR : Value), v_ = .int .i64 ii ∧ Aside0 (ii = (i : Int)) ∧ Aside0 (i + kq = F.f4.length) ∧ Aside0 (nb ≤ w'.heap.size) ∧ Aside0 (Kd.N k44 44 w' nb (fun k => b9 < k) vR (l.take i)) ∧ Aside0 (Bs w w' [(b9, #[vR, .bool a.f1], 41), (bF, #[.int .i64 F.f0, .bool F.f1, .int .i64 F.f2, .string F.f3, .slice E4 F.f4.length e4, .slice E5 F.f5.length e5], 25), (bA, #[.int .i64 a.f0, .bool a.f1, .int .i64 a.f2, .string a.f3, .slice G4 a.f4.length g4, .slice G5 a.f5.length g5], 25), (br, #[.slice none 0 0, .bool false], 41), (bv, #[.int .i64 v.f0, .bool v.f1, .int .i64 v.f2, .string v.f3, .slice A4 v.f4.length c4, .slice A5 v.f5.length c5], 25)]))
 case atStart => exact ⟨0, 0, .slice none 0 0, rfl, ⟨rfl⟩, ⟨by omega⟩, HS4, HN, HP⟩
 case round =>
  clear HP HN HS4 yf4
  obtain ⟨ii, i, vR, rfl, HII, HI, HS4, HN, HP⟩ := hrel
  cases gk with
  | zero =>
   have e0 : decide (ii < (F.f4.length : Int)) = false := decide_eq_false (by have := HII.out; have := HI.out; omega)
   have n0 := Aside0.mk (show Kd.N k44 44 wr nb (fun k => b9 < k) vR l by have h_ := HN.out; rw [List.take_of_length_le (by have := HI.out; have := HLN.out.1; omega)] at h_; exact h_)
   clear HN
   have HN := n0
   clear n0
   obtain ⟨Ar, cr, hvr⟩ := Kd.N_slice HN.out
   subst hvr
   have ys0 : wr.cell? ⟨b9, 0, none⟩ = some (.slice Ar l.length cr) := HP.out.cl 0 0 rfl rfl
   have ys1 : wr.cell? ⟨b9, 1, none⟩ = some (.bool a.f1) := HP.out.cl 0 1 rfl rfl
   go_upto_region 21 with (go_at_call 28; refine (cs_calls k l Ar cr a.f1 0 _ (Kd.N_reads' HN.out).2.2 (Kd.N_reads' HN.out).2.1 HSZ.out HCS.out).mono ?_; rintro e w5 ⟨rfl, hb⟩; have n0 := Aside0.mk (HP.out.below hb); have n1 := Aside0.mk (Kd.N_below HN.out hb); clear HP HN; have HP := n0; have HN := n1; clear n0 n1; clear hb)
   clear ys0 ys1
   have ys0 : w5.cell? ⟨b9, 0, none⟩ = some (.slice Ar l.length cr) := HP.out.cl 0 0 rfl rfl
   have ys1 : w5.cell? ⟨b9, 1, none⟩ = some (.bool a.f1) := HP.out.cl 0 1 rfl rfl
   have yr0 : w5.cell? ⟨br, 0, none⟩ = some (.slice none 0 0) := HP.out.cl 3 0 rfl rfl
   have yr1 : w5.cell? ⟨br, 1, none⟩ = some (.bool false) := HP.out.cl 3 1 rfl rfl
   have zr0 := HP.out.fz 3 0 rfl
   have zr1 := HP.out.fz 3 1 rfl
   go_wp2_with fail
   refine bodyPost_ret (results_ct rfl _ _ br 41 #[.slice Ar l.length cr, .bool a.f1] (0, 0) _ rfl ((HP.out.two 3 rfl (.slice Ar l.length cr) (.bool a.f1)).get 3 rfl) Tryz.underlying41 rfl (by kernel_rfl)) rfl ?_
   exact ⟨Ar, cr, rfl, (Kd.N_reads' HN.out).2.1, Kd.F_now (Kd.F_step (Kd.N_F HN.out) (fun k hk hlt => two_same (g := br) (k := k) (by have := LBR.out; have h_ : b9 < k := hk; omega) (.slice Ar l.length cr) (.bool a.f1))), (HP.out.two 3 rfl (.slice Ar l.length cr) (.bool a.f1)).B⟩
  | succ k1 =>
   have p0 : 0 ≤ ii := by have := HII.out; omega
   have p1 : ii < (F.f4.length : Int) := by have := HII.out; have := HI.out; omega
   have q0 : decide (ii < (F.f4.length : Int)) = true := decide_eq_true p1
   have q1 : decide (0 ≤ ii) = true := decide_eq_true p0
   have hil : i < l.length := by have := HI.out; have := HLN.out.1; omega
   obtain ⟨jl, jk, jr⟩ := HIT.out i hil
   have HTK := Aside0.mk (rd44n hil)
   rw [← HII.out] at jl jk jr HTK
   obtain ⟨ad, X4, x4_, X5, x5_, e_, x0, x1, x2, x3, x4, x5, hrd⟩ := at_F25 HF.out.1 ii p0 p1
   cases e_
   generalize rd_T25 F.f4 ii = x at x0 x1 x2 x3 x4 x5 hrd jl jk jr
   generalize rd_T44 l ii = f at jr HTK
   have HX := Aside0.mk hrd
   have JL := Aside0.mk jl
   have JK := Aside0.mk jk
   have JR := Aside0.mk jr
   have HIL := Aside0.mk hil
   clear hrd jl jk jr hil
   replace x0 := (HP.out.B.cell (World.block_lt_of_cell? w _ x0)).trans x0
   replace x1 := (HP.out.B.cell (World.block_lt_of_cell? w _ x1)).trans x1
   replace x2 := (HP.out.B.cell (World.block_lt_of_cell? w _ x2)).trans x2
   replace x3 := (HP.out.B.cell (World.block_lt_of_cell? w _ x3)).trans x3
   replace x4 := (HP.out.B.cell (World.block_lt_of_cell? w _ x4)).trans x4
   replace x5 := (HP.out.B.cell (World.block_lt_of_cell? w _ x5)).trans x5
   replace p0 := eq_true p0
   replace p1 := eq_true p1
   obtain ⟨Ar, cr, hvr⟩ := Kd.N_slice HN.out
   subst hvr
   have HLT := Aside0.mk (show (l.take i).length = i by rw [List.length_take]; have := HIL.out; omega)
   generalize l.take i = acc at HN HTK HLT HP ⊢
   go_upto_region 14 with (((with_reducible refine gate_dst (N := 11) rfl ?_); refine box_event ?hg (N := 11) ?hd (cs := #[.int .i64 0, .bool false, .int .i64 0, .string ⟨#[]⟩, .slice none 0 0, .slice none 0 0]) (t := 25) ?hr ?_; (case hd => rfl); (case hg => rfl); (case hr => first | (go_simp; done) | (go_simp; rfl)); intro bt hg_ W14 hbox hb; have n0 := Aside0.mk (HP.out.new hg_ hbox hb); have n1 := Aside0.mk (Kd.N_below (Kd.N_bound HN.out) hb); have n2 := Aside0.mk ((show _ = bt from hg_.symm)); have n3 := Aside0.mk ((show nb ≤ bt by rw [hg_]; exact HS4.out)); clear HP HN; have HP := n0; have HN := n1; have HGE := n2; have HBN := n3; clear n0 n1 n2 n3; clear hg_ hbox hb; have yz0 : W14.cell? ⟨bt, 0, none⟩ = some (.int .i64 0) := HP.out.cl 0 0 rfl rfl; have yz1 : W14.cell? ⟨bt, 1, none⟩ = some (.bool false) := HP.out.cl 0 1 rfl rfl; have yz2 : W14.cell? ⟨bt, 2, none⟩ = some (.int .i64 0) := HP.out.cl 0 2 rfl rfl; have yz3 : W14.cell? ⟨bt, 3, none⟩ = some (.string ⟨#[]⟩) := HP.out.cl 0 3 rfl rfl; have yz4 : W14.cell? ⟨bt, 4, none⟩ = some (.slice none 0 0) := HP.out.cl 0 4 rfl rfl; have yz5 : W14.cell? ⟨bt, 5, none⟩ = some (.slice none 0 0) := HP.out.cl 0 5 rfl rfl; have zz0 := HP.out.fz 0 0 rfl; have zz1 := HP.out.fz 0 1 rfl; have zz2 := HP.out.fz 0 2 rfl; have zz3 := HP.out.fz 0 3 rfl; have zz4 := HP.out.fz 0 4 rfl; have zz5 := HP.out.fz 0 5 rfl))
   have n0 := Aside0.mk (HP.out.six 0 rfl (.int .i64 x.f0) (.bool x.f1) (.int .i64 x.f2) (.string x.f3) (.slice X4 x.f4.length x4_) (.slice X5 x.f5.length x5_))
   have n1 := Aside0.mk (Kd.N_mono (Kd.N_step HN.out (fun k hk hlt => six_same (g := bt) (k := k) (by have := hk.2; have := HGE.out; omega) hlt (.int .i64 x.f0) (.bool x.f1) (.int .i64 x.f2) (.string x.f3) (.slice X4 x.f4.length x4_) (.slice X5 x.f5.length x5_))) (ok' := fun k => b9 < k) (fun k hk => hk.1))
   clear HP HN
   have HP := n0
   have HN := n1
   clear n0 n1
   clear HGE yz0 zz0 x0 yz1 zz1 x1 yz2 zz2 x2 yz3 zz3 x3 yz4 zz4 x4 yz5 zz5 x5
   generalize ((((((W14.setCell ⟨bt, 0, none⟩ (.int .i64 x.f0)).setCell ⟨bt, 1, none⟩ (.bool x.f1)).setCell ⟨bt, 2, none⟩ (.int .i64 x.f2)).setCell ⟨bt, 3, none⟩ (.string x.f3)).setCell ⟨bt, 4, none⟩ (.slice X4 x.f4.length x4_)).setCell ⟨bt, 5, none⟩ (.slice X5 x.f5.length x5_)) = W15 at HP HN ⊢
   have yx0 : W15.cell? ⟨bt, 0, none⟩ = some (.int .i64 x.f0) := HP.out.cl 0 0 rfl rfl
   have yx1 : W15.cell? ⟨bt, 1, none⟩ = some (.bool x.f1) := HP.out.cl 0 1 rfl rfl
   have yx2 : W15.cell? ⟨bt, 2, none⟩ = some (.int .i64 x.f2) := HP.out.cl 0 2 rfl rfl
   have yx3 : W15.cell? ⟨bt, 3, none⟩ = some (.string x.f3) := HP.out.cl 0 3 rfl rfl
   have yx4 : W15.cell? ⟨bt, 4, none⟩ = some (.slice X4 x.f4.length x4_) := HP.out.cl 0 4 rfl rfl
   have yx5 : W15.cell? ⟨bt, 5, none⟩ = some (.slice X5 x.f5.length x5_) := HP.out.cl 0 5 rfl rfl
   go_upto_region 16 with (go_at_call 37; refine (lacking_calls x X4 x4_ X5 x5_ false _ (HX.out.below HP.out.B).now JK.out).mono ?_; rintro e W16 ⟨rfl, hb⟩; have n0 := Aside0.mk (HP.out.below hb); have n1 := Aside0.mk (Kd.N_below HN.out hb); clear HP HN; have HP := n0; have HN := n1; clear n0 n1; clear hb)
   clear yx0 yx1 yx2 yx3 yx4 yx5
   have HS16 := Aside0.mk (show nb ≤ W16.heap.size by have h_ := HP.out.lt 0 rfl; have h1_ := HBN.out; omega)
   clear HS4
   have HS4 := HS16
   clear HS16
   have hb := below_drew (Below.refl W16.heap.size W16)
   have n0 := Aside0.mk (HP.out.below hb)
   have n1 := Aside0.mk (Kd.N_below HN.out hb)
   have n2 := Aside0.mk (Nat.le_trans HS4.out hb.size)
   clear HP HN HS4
   have HP := n0
   have HN := n1
   have HS4 := n2
   clear n0 n1 n2
   clear hb
   refine start_ (n := 8) (S := fun w' => w'.cell? ⟨bt, 0, none⟩ = some (.int .i64 x.f0) ∧ w'.cell? ⟨bt, 1, none⟩ = some (.bool x.f1) ∧ w'.cell? ⟨bt, 2, none⟩ = some (.int .i64 x.f2) ∧ w'.cell? ⟨bt, 3, none⟩ = some (.string x.f3) ∧ w'.cell? ⟨bt, 4, none⟩ = some (.slice X4 x.f4.length x4_) ∧ w'.cell? ⟨bt, 5, none⟩ = some (.slice X5 x.f5.length x5_) ∧ w'.cell? ⟨b9, 0, none⟩ = some (.slice Ar acc.length cr)) (ds := [7]) #[false, false, false, false, false, false, false, false] (by kernel_rfl) rfl rfl ⟨HP.out.cl 0 0 rfl rfl, HP.out.cl 0 1 rfl rfl, HP.out.cl 0 2 rfl rfl, HP.out.cl 0 3 rfl rfl, HP.out.cl 0 4 rfl rfl, HP.out.cl 0 5 rfl rfl, HP.out.cl 1 0 rfl rfl⟩ (fun hHeld => ?_)
   generalize W16.drew = y1 at HP HN HS4 hHeld ⊢
   refine pure_ (i := 0) (N := some 48) (v := ?_) (a' := ?_) (ob 8 1) rfl rfl (by kernel_rfl) (fun _ _ _ h => h) (Or.inl ⟨by rfl, ?_⟩) ?_ ?_
   rotate_left
   ·intro w'
    go_simp
    with_reducible rfl
   rotate_left
   ·simp only [Act.put, List.setIfInBounds_toArray, List.set_cons_zero, List.set_cons_succ, i64_w, i32_w]
    rfl
   refine take_ (i := 1) (N := some 49) (v := ?_) (a' := ?_) (ob 8 3) rfl rfl (by kernel_rfl) (fun _ _ _ h => h) (Or.inl ⟨by rfl, ?_⟩) hHeld ?_ ?_
   rotate_left
   ·rintro w' ⟨s0, s1, s2, s3, s4, s5, s6⟩
    go_simp
    with_reducible rfl
   rotate_left
   ·simp only [Act.put, List.setIfInBounds_toArray, List.set_cons_zero, List.set_cons_succ, i64_w, i32_w]
    rfl
   refine take_ (i := 2) (N := some 50) (v := ?_) (a' := ?_) (ob 8 7) rfl rfl (by kernel_rfl) (fun _ _ _ h => h) (Or.inl ⟨by rfl, ?_⟩) hHeld ?_ ?_
   rotate_left
   ·rintro w' ⟨s0, s1, s2, s3, s4, s5, s6⟩
    go_simp
    with_reducible rfl
   rotate_left
   ·simp only [Act.put, List.setIfInBounds_toArray, List.set_cons_zero, List.set_cons_succ, i64_w, i32_w]
    rfl
   refine one_ (i := 3) (N := some 51) (ob 8 15) rfl rfl (by kernel_rfl) (by decide) (fun K hK => ?_)
   refine goes_ Tryz.func38 (by kernel_rfl) rfl #[.agg #[.int .i64 x.f0, .bool x.f1, .int .i64 x.f2, .string x.f3, .slice X4 x.f4.length x4_, .slice X5 x.f5.length x5_]] (by rfl) rfl rfl (by simp only [List.map_toArray, List.map_cons, List.map_nil]; rfl) ?_
   with_reducible refine (readField_calls k x X4 x4_ X5 x5_ f _ (HKN.out.below HP.out.B) (HX.out.below HP.out.B).now JL.out JR.out).mono ?_
   rintro e y3 ⟨A6, c6, A11, c11, A12, c12, rfl, l6, g6, g7, hb⟩
   refine ⟨_, rfl, ?_⟩
   have HOW := Aside0.mk (Kd.N_lt HN.out)
   have L6 := Aside0.mk l6
   have G6 := Aside0.mk (Kd.F_mono g6 (ok' := fun k => b9 < k ∧ some k ≠ (Value.slice Ar acc.length cr).ownBlock) (fun k hk => ⟨by have h_ := HP.out.lt 1 rfl; omega, fun he => by have h_ := HOW.out k he.symm; omega⟩))
   have G7 := Aside0.mk (g7.mono (ok' := fun k => b9 < k ∧ some k ≠ (Value.slice Ar acc.length cr).ownBlock) (fun k hk => ⟨by have h_ := HP.out.lt 1 rfl; omega, fun he => by have h_ := HOW.out k he.symm; omega⟩))
   have hbs := hb.size
   have n0 := Aside0.mk (HP.out.below hb)
   have n1 := Aside0.mk (Kd.N_below HN.out hb)
   have n2 := Aside0.mk (Nat.le_trans HS4.out hb.size)
   clear HP HN HS4
   have HP := n0
   have HN := n1
   have HS4 := n2
   clear n0 n1 n2
   clear l6 g6 g7 hb hbs HOW
   refine hK.out _ _ ⟨HP.out.cl 0 0 rfl rfl, HP.out.cl 0 1 rfl rfl, HP.out.cl 0 2 rfl rfl, HP.out.cl 0 3 rfl rfl, HP.out.cl 0 4 rfl rfl, HP.out.cl 0 5 rfl rfl, HP.out.cl 1 0 rfl rfl⟩ (fun hHeld => ?_)
   clear hK K
   refine norm_ (a' := ?_) ?_ ?_
   rotate_left
   ·show Act.put _ (some 51) _ = _
    simp only [Act.put, List.setIfInBounds_toArray, List.set_cons_zero, List.set_cons_succ, i64_w, i32_w]
    rfl
   refine one_ (i := 4) (N := some 52) (ob 8 31) rfl rfl (by kernel_rfl) (by decide) (fun K hK => ?_)
   refine value_ (w1 := ?_) (v := ?_) (by rfl) rfl ?_ ?_
   rotate_left 2
   ·go_simp
    constructor
    ·rfl
    ·rfl
   refine hK.out _ _ ⟨(blk_cell ((HP.out.below (below_alloc (Below.refl _ _) _)).get 0 rfl) 0).trans rfl, (blk_cell ((HP.out.below (below_alloc (Below.refl _ _) _)).get 0 rfl) 1).trans rfl, (blk_cell ((HP.out.below (below_alloc (Below.refl _ _) _)).get 0 rfl) 2).trans rfl, (blk_cell ((HP.out.below (below_alloc (Below.refl _ _) _)).get 0 rfl) 3).trans rfl, (blk_cell ((HP.out.below (below_alloc (Below.refl _ _) _)).get 0 rfl) 4).trans rfl, (blk_cell ((HP.out.below (below_alloc (Below.refl _ _) _)).get 0 rfl) 5).trans rfl, (blk_cell ((HP.out.below (below_alloc (Below.refl _ _) _)).get 1 rfl) 0).trans rfl⟩ (fun hHeld => ?_)
   clear hK K
   refine norm_ (a' := ?_) ?_ ?_
   rotate_left
   ·show Act.put _ (some 52) _ = _
    simp only [Act.put, List.setIfInBounds_toArray, List.set_cons_zero, List.set_cons_succ, i64_w, i32_w]
    rfl
   refine one_ (i := 5) (N := some 53) (ob 8 63) rfl rfl (by kernel_rfl) (by decide) (fun K hK => ?_)
   refine Kd.N_append_step k44 (w0 := y3) nb (by rfl) (.tmp 49) (.tmp 52) 39 44 (.agg #[.string ⟨#[]⟩, .int .i64 0, .bool false, .bool false, .int .i64 0, .int .i64 0, .slice none 0 0, .int .i64 0, .bool false, .int .i64 0, .string ⟨#[]⟩, .slice none 0 0, .slice none 0 0]) 160 rfl Tryz.underlying39 info44' rfl (by decide) (by omega) (.slice Ar acc.length cr) acc f [.string f.f0, .int .i64 f.f1, .bool f.f2, .bool f.f3, .int .i64 f.f4, .int .i64 f.f5, .slice A6 f.f6.length c6, .int .i64 f.f7.f0, .bool f.f7.f1, .int .i64 f.f7.f2, .string f.f7.f3, .slice A11 f.f7.f4.length c11, .slice A12 f.f7.f5.length c12] (fun k => b9 < k) _ rfl (by rfl) (k44_mkF _ _ f L6.out G6.out G7.out) (fun k hk => hk) (fun k hk => by have := LB9.out; have := HS4.out; omega) HN.out (Below.refl _ _) HS4.out (by have := HLT.out; have := HIL.out; have := HLN.out.2; omega) ?_
   intro v5 y5 ho hb hg hat
   generalize hacc : acc ++ [f] = acc2 at ho
   have HA2 := Aside0.mk (HTK.out.trans hacc)
   clear hacc
   obtain ⟨A7, c7, hv7⟩ := Kd.N_slice ho
   subst hv7
   have n0 := Aside0.mk (HP.out.grown hg (HP.out.B.grown hg HP.out.size (fun k e => by have h1_ := Kd.N_base HN.out k e; have h2_ := HP.out.low 1 rfl; have := LB9.out; omega)) (HP.out.apartN HN.out rfl))
   have n1 := Aside0.mk (Nat.le_trans HS4.out hg.size)
   clear HP HS4
   have HP := n0
   have HS4 := n1
   clear n0 n1
   clear HN
   have HN := Aside0.mk ho
   clear ho hb hg hat
   refine hK.out _ _ ⟨HP.out.cl 0 0 rfl rfl, HP.out.cl 0 1 rfl rfl, HP.out.cl 0 2 rfl rfl, HP.out.cl 0 3 rfl rfl, HP.out.cl 0 4 rfl rfl, HP.out.cl 0 5 rfl rfl, HP.out.cl 1 0 rfl rfl⟩ (fun hHeld => ?_)
   clear hK K
   refine norm_ (a' := ?_) ?_ ?_
   rotate_left
   ·show Act.put _ (some 53) _ = _
    simp only [Act.put, List.setIfInBounds_toArray, List.set_cons_zero, List.set_cons_succ, i64_w, i32_w]
    rfl
   refine pure_ (i := 6) (N := some 54) (v := ?_) (a' := ?_) (ob 8 127) rfl rfl (by kernel_rfl) (fun _ _ _ h => h) (Or.inl ⟨by rfl, ?_⟩) ?_ ?_
   rotate_left
   ·intro w'
    go_simp
    with_reducible rfl
   rotate_left
   ·simp only [Act.put, List.setIfInBounds_toArray, List.set_cons_zero, List.set_cons_succ, i64_w, i32_w]
    rfl
   refine last_ (i := 7) (N := none) (ob 8 255) rfl rfl (by kernel_rfl) (by decide) (fun K hK => ?_)
   have yo0 : y5.cell? ⟨b9, 0, none⟩ = some (.slice Ar acc.length cr) := HP.out.cl 1 0 rfl rfl
   have zo0 := HP.out.fz 1 0 rfl
   refine skip_ (w1 := ?_) (by rfl) rfl ?_ ?_
   rotate_left
   ·go_simp
    rfl
   clear yo0 zo0
   have n0 := Aside0.mk ((HP.out.put' 1 rfl 0 (.slice A7 acc2.length c7) rfl).1)
   have n1 := Aside0.mk (Kd.N_far HN.out (p := ⟨b9, 0, none⟩) (fun k hk => Nat.ne_of_gt hk) (.slice A7 acc2.length c7))
   have n2 := Aside0.mk (show nb ≤ (y5.setCell ⟨b9, 0, none⟩ (.slice A7 acc2.length c7)).heap.size from Nat.le_trans HS4.out ((Below.refl 0 y5).setCell (p := ⟨b9, 0, none⟩) (Nat.zero_le _) (.slice A7 acc2.length c7)).size)
   clear HP HN HS4
   have HP := n0
   have HN := n1
   have HS4 := n2
   clear n0 n1 n2
   generalize y5.setCell ⟨b9, 0, none⟩ (.slice A7 acc2.length c7) = y6 at HP HN HS4 ⊢
   refine hK.out _ _ ?_
   clear hK K
   refine done_ (by kernel_rfl) ?_
   go_wp2_with fail
   go_roundg k1
   case measure => omega
   case rel => exact ⟨_, i + 1, _, rfl, ⟨by have h2_ := HII.out; have h3_ := HIL.out; have h4_ := HLN.out.2; unfold wrap64; omega⟩, ⟨by have := HI.out; omega⟩, HS4, ⟨by rw [HA2.out]; exact HN.out⟩, ⟨HP.out.tail⟩⟩
end Go.Proofs.YtlofkjdcapbohaaGreatDoor.PConfKeeps
