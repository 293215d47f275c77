/- For the law ConfMends: diff, walked. No condition. -/
import Derived.Test.YtlofkjdcapbohaaGreatDoorCfW
namespace Go.Proofs.YtlofkjdcapbohaaGreatDoor.PConfKeeps
open Go.RowKit Go.Proofs.YtlofkjdcapbohaaGreatDoorW.PrintWords Go.Proofs.YtlofkjdcapbohaaGreatDoorW.PrintLast Go.Proofs.YtlofkjdcapbohaaGreatDoorW.PrintMore
set_option linter.unusedVariables false
set_option linter.unusedSimpArgs false

theorem compare_calls (k : Nat) (a : S25) (A4 : Option Addr) (c4 : Nat) (A5 : Option Addr) (c5 : Nat) (b : S25) (B4 : Option Addr) (d4 : Nat) (B5 : Option Addr) (d5 : Nat) (c : Int) (w : World) (ha : Rd w a A4 c4 A5 c5) (hb : Rd w b B4 d4 B5 d5) (h : Fcm k a b = some c) : Calls Tryz.prog 22 #[.agg #[.int .i64 a.f0, .bool a.f1, .int .i64 a.f2, .string a.f3, .slice A4 a.f4.length c4, .slice A5 a.f5.length c5], .agg #[.int .i64 b.f0, .bool b.f1, .int .i64 b.f2, .string b.f3, .slice B4 b.f4.length d4, .slice B5 b.f5.length d5]] w fun e w' => e = .returned (.int .i64 c) ∧ Below w.heap.size w w' :=
 conf_Compare.calls k a.f0 a.f1 a.f2 a.f3 A4 c4 a.f4 A5 c5 a.f5 b.f0 b.f1 b.f2 b.f3 B4 d4 b.f4 B5 d5 b.f5 c w ha.1 ha.2.1 ha.2.2.1 ha.2.2.2 hb.1 hb.2.1 hb.2.2.1 hb.2.2.2 h
theorem Bs.apartN2 {α : Type} {d : Kd α} {e : Nat} {w W : World} {l : List (Nat × Array Value × Nat)} {base : Nat} {ok : Nat → Prop} {v : Value} {xs : List α} (h : Bs w W l) (ho : Kd.N d e W base ok v xs) (ht : l.all (fun p => p.2.2 != e) = true) : ∀ (i : Nat) (p : Nat × Array Value × Nat), l[i]? = some p → some p.1 ≠ v.ownBlock := fun i p hp =>
 Kd.N_ne ho (h.blk i p hp) (fun he => by
  have := List.all_eq_true.1 ht p (List.mem_of_getElem? hp)
  rw [bne_iff_ne] at this
  exact this he.symm)
set_option maxHeartbeats 4000000 in
set_option maxRecDepth 100000 in
theorem diff_calls (k : Nat) : ∀ (n : Nat) (a : S25) (A4 : Option Addr) (c4 : Nat) (A5 : Option Addr) (c5 : Nat) (b : S25) (B4 : Option Addr) (d4 : Nat) (B5 : Option Addr) (d5 : Nat) (route : ByteArray) (g o : List S69) (w : World) (B0 bd : Nat) (vG vO : Value) (xG xO : List S69) (ha : RdF w (fun q => q < B0) a A4 c4 A5 c5) (hb : RdF w (fun q => q < B0) b B4 d4 B5 d5) (hd : DS B0 bd w vG vO xG xO) (hs : B0 ≤ w.heap.size) (hn : xG.length + g.length ≤ 1000000 ∧ xO.length + o.length ≤ 1000000) (h : cdiff k n a b route = some (g, o)),
  Calls Tryz.prog 25 #[.pointer (some ⟨bd, 0, none⟩), .agg #[.int .i64 a.f0, .bool a.f1, .int .i64 a.f2, .string a.f3, .slice A4 a.f4.length c4, .slice A5 a.f5.length c5], .agg #[.int .i64 b.f0, .bool b.f1, .int .i64 b.f2, .string b.f3, .slice B4 b.f4.length d4, .slice B5 b.f5.length d5], .string route] w fun e w' => ∃ uG uO, e = .returned (.tuple #[]) ∧ DS B0 bd w' uG uO (xG ++ g) (xO ++ o) ∧ Fr w w' bd vG vO uG uO := by
 intro n
 induction n with
 | zero => intro a A4 c4 A5 c5 b B4 d4 B5 d5 route g o w B0 bd vG vO xG xO ha hb hd hs hn h; cases h
 | succ n ih =>
  intro a A4 c4 A5 c5 b B4 d4 B5 d5 route g o w B0 bd vG vO xG xO ha hb hd hs hn h
  have hu25 := Tryz.underlying25
  have hu66 := Tryz.underlying66
  have hu69 := Tryz.underlying69
  have HA := Aside0.mk ha
  have HBV := Aside0.mk hb
  have HD0 := Aside0.mk hd
  have HS := Aside0.mk hs
  have HN := Aside0.mk hn
  have IH := Aside0.mk ih
  obtain ⟨w0, hw0, hP⟩ : ∃ w0 : World, w0.heap.size = 0 ∧ Bs w0 w [] := ⟨{ w with heap := #[] }, rfl, Bs.start w⟩
  have HZ := Aside0.mk hw0
  have HP := Aside0.mk hP
  have HFR := Aside0.mk (Fr.refl w bd vG vO)
  rw [cdiff] at h
  obtain ⟨c, hc, h1⟩ := Option.bind_eq_some_iff.1 h
  have HC := Aside0.mk hc
  have H := Aside0.mk h1
  clear ha hb hd hs hn ih hw0 hP hc h h1
  obtain ⟨Ag, cg, hvg⟩ := Kd.N_slice HD0.out.G
  subst hvg
  obtain ⟨Ao, co, hvo⟩ := Kd.N_slice HD0.out.O
  subst hvo
  have HD := HD0
  go_enter Tryz.func25, Tryz.ntmps25
  go_upto_region 1 with (first | ((with_reducible refine gate_dst (N := 5) rfl ?_); refine box_event ?hg (N := 5) ?hd (cs := #[.int .i64 a.f0, .bool a.f1, .int .i64 a.f2, .string a.f3, .slice A4 a.f4.length c4, .slice A5 a.f5.length c5]) (t := 25) ?hr ?_; (case hd => rfl); (case hg => rfl); (case hr => first | (go_simp; done) | (go_simp; rfl)); intro ba hg_ W1 hbox hb; have n0 := Aside0.mk (HP.out.new hg_ hbox hb); have n1 := Aside0.mk (HD.out.below hb); have n2 := Aside0.mk (HFR.out.below hb); clear HP HD HFR; have HP := n0; have HD := n1; have HFR := n2; clear n0 n1 n2; clear hg_ hbox hb) | ((with_reducible refine gate_dst (N := 6) rfl ?_); refine box_event ?hg (N := 6) ?hd (cs := #[.int .i64 b.f0, .bool b.f1, .int .i64 b.f2, .string b.f3, .slice B4 b.f4.length d4, .slice B5 b.f5.length d5]) (t := 25) ?hr ?_; (case hd => rfl); (case hg => rfl); (case hr => first | (go_simp; done) | (go_simp; rfl)); intro bb hg_ W2 hbox hb; have n0 := Aside0.mk (HP.out.new hg_ hbox hb); have n1 := Aside0.mk (HD.out.below hb); have n2 := Aside0.mk (HFR.out.below hb); clear HP HD HFR; have HP := n0; have HD := n1; have HFR := n2; clear n0 n1 n2; clear hg_ hbox hb))
  have ya0 : W2.cell? ⟨ba, 0, none⟩ = some (.int .i64 a.f0) := HP.out.cl 1 0 rfl rfl
  have ya1 : W2.cell? ⟨ba, 1, none⟩ = some (.bool a.f1) := HP.out.cl 1 1 rfl rfl
  have ya2 : W2.cell? ⟨ba, 2, none⟩ = some (.int .i64 a.f2) := HP.out.cl 1 2 rfl rfl
  have ya3 : W2.cell? ⟨ba, 3, none⟩ = some (.string a.f3) := HP.out.cl 1 3 rfl rfl
  have ya4 : W2.cell? ⟨ba, 4, none⟩ = some (.slice A4 a.f4.length c4) := HP.out.cl 1 4 rfl rfl
  have ya5 : W2.cell? ⟨ba, 5, none⟩ = some (.slice A5 a.f5.length c5) := HP.out.cl 1 5 rfl rfl
  have yb0 : W2.cell? ⟨bb, 0, none⟩ = some (.int .i64 b.f0) := HP.out.cl 0 0 rfl rfl
  have yb1 : W2.cell? ⟨bb, 1, none⟩ = some (.bool b.f1) := HP.out.cl 0 1 rfl rfl
  have yb2 : W2.cell? ⟨bb, 2, none⟩ = some (.int .i64 b.f2) := HP.out.cl 0 2 rfl rfl
  have yb3 : W2.cell? ⟨bb, 3, none⟩ = some (.string b.f3) := HP.out.cl 0 3 rfl rfl
  have yb4 : W2.cell? ⟨bb, 4, none⟩ = some (.slice B4 b.f4.length d4) := HP.out.cl 0 4 rfl rfl
  have yb5 : W2.cell? ⟨bb, 5, none⟩ = some (.slice B5 b.f5.length d5) := HP.out.cl 0 5 rfl rfl
  have H1 := H.out
  clear H
  by_cases c1 : c = 0
  case pos =>
   rw [if_pos c1] at H1
   injection H1 with H1
   injection H1 with H1 H2
   subst H1
   subst H2
   have e1a : (c == 0) = true := beq_iff_eq.2 c1
   have e1b : (c != 0) = false := bne_eq_false_iff_eq.2 c1
   replace c1 := Aside0.mk c1
   go_wp2_with (go_at_call 22; refine (compare_calls k a A4 c4 A5 c5 b B4 d4 B5 d5 c _ (HA.out.old (HFR.out.old HD0.out HS.out)).now (HBV.out.old (HFR.out.old HD0.out HS.out)).now HC.out).mono ?_; rintro e W3 ⟨rfl, hb⟩; have n0 := Aside0.mk (HP.out.below hb); have n1 := Aside0.mk (HD.out.below hb); have n2 := Aside0.mk (HFR.out.below hb); clear HP HD HFR; have HP := n0; have HD := n1; have HFR := n2; clear n0 n1 n2; clear hb)
   refine bodyPost_ret (results_none rfl _ _ _) rfl ?_
   exact ⟨_, _, rfl, by rw [List.append_nil, List.append_nil]; exact HD.out, HFR.out⟩
  rw [if_neg c1] at H1
  have e1a : (c == 0) = false := beq_eq_false_iff_ne.2 c1
  have e1b : (c != 0) = true := bne_iff_ne.2 c1
  replace c1 := Aside0.mk c1
  go_upto_region 2 with (go_at_call 22; refine (compare_calls k a A4 c4 A5 c5 b B4 d4 B5 d5 c _ (HA.out.old (HFR.out.old HD0.out HS.out)).now (HBV.out.old (HFR.out.old HD0.out HS.out)).now HC.out).mono ?_; rintro e W3 ⟨rfl, hb⟩; have n0 := Aside0.mk (HP.out.below hb); have n1 := Aside0.mk (HD.out.below hb); have n2 := Aside0.mk (HFR.out.below hb); clear HP HD HFR; have HP := n0; have HD := n1; have HFR := n2; clear n0 n1 n2; clear hb)
  clear e1a e1b ya0 yb0 ya1 yb1 ya2 yb2 ya3 yb3 ya4 yb4 ya5 yb5
  obtain ⟨kb, hkb⟩ : ∃ kb : Bool, kb = decide (a.f0 ≠ 6 ∨ b.f0 ≠ 6) := ⟨_, rfl⟩
  have HKB := Aside0.mk hkb
  clear hkb
  go_cut [29] (fun v wc => v = .bool kb ∧ Aside0 (wc = W3))
  case first =>
   have ya0 : W3.cell? ⟨ba, 0, none⟩ = some (.int .i64 a.f0) := HP.out.cl 1 0 rfl rfl
   have yb0 : W3.cell? ⟨bb, 0, none⟩ = some (.int .i64 b.f0) := HP.out.cl 0 0 rfl rfl
   by_cases c2 : a.f0 = 6
   case neg =>
    have e2a : (a.f0 == 6) = false := beq_eq_false_iff_ne.2 c2
    have e2b : (a.f0 != 6) = true := bne_iff_ne.2 c2
    have c2' := Aside0.mk c2
    clear c2
    go_wp2_with fail
    go_meet
    case rel => exact ⟨by rw [HKB.out, decide_eq_true (.inl c2'.out)], ⟨rfl⟩⟩
   have e2a : (a.f0 == 6) = true := beq_iff_eq.2 c2
   have e2b : (a.f0 != 6) = false := bne_eq_false_iff_eq.2 c2
   have c2' := Aside0.mk c2
   clear c2
   by_cases c3 : b.f0 = 6
   case neg =>
    have e3a : (b.f0 == 6) = false := beq_eq_false_iff_ne.2 c3
    have e3b : (b.f0 != 6) = true := bne_iff_ne.2 c3
    have c3' := Aside0.mk c3
    clear c3
    go_wp2_with fail
    go_meet
    case rel => exact ⟨by rw [HKB.out, decide_eq_true (.inr c3'.out)], ⟨rfl⟩⟩
   have e3a : (b.f0 == 6) = true := beq_iff_eq.2 c3
   have e3b : (b.f0 != 6) = false := bne_eq_false_iff_eq.2 c3
   have c3' := Aside0.mk c3
   clear c3
   go_wp2_with fail
   go_meet
   case rel => exact ⟨by rw [HKB.out, decide_eq_false (by have h1_ := c2'.out; have h2_ := c3'.out; intro h_; rcases h_ with h_ | h_ <;> contradiction)], ⟨rfl⟩⟩
  case rest =>
   obtain ⟨rfl, HW⟩ := hcut
   have hw_ := HW.out.symm
   subst hw_
   clear HW
   by_cases ck : a.f0 ≠ 6 ∨ b.f0 ≠ 6
   case pos =>
    rw [if_pos ck] at H1
    obtain ⟨x, hx, H1⟩ := Option.bind_eq_some_iff.1 H1
    injection H1 with H1
    injection H1 with H1 H2
    subst H1
    subst H2
    have HCL := Aside0.mk hx
    have hk_ := HKB.out
    rw [decide_eq_true ck] at hk_
    subst hk_
    clear hx ck
    go_upto_region 3 with (fail)
    have HBD := Aside0.mk HD.out.D
    have hb := below_drew (Below.refl W3.heap.size W3)
    have n0 := Aside0.mk (HP.out.below hb)
    have n1 := Aside0.mk (HD.out.below hb)
    have n2 := Aside0.mk (HFR.out.below hb)
    have n3 := Aside0.mk (blk_below HBD.out hb)
    clear HP HD HFR HBD
    have HP := n0
    have HD := n1
    have HFR := n2
    have HBD := n3
    clear n0 n1 n2 n3
    clear hb
    refine start_ (n := 14) (S := fun w' => w'.cell? ⟨bb, 0, none⟩ = some (.int .i64 b.f0) ∧ w'.cell? ⟨bb, 1, none⟩ = some (.bool b.f1) ∧ w'.cell? ⟨bb, 2, none⟩ = some (.int .i64 b.f2) ∧ w'.cell? ⟨bb, 3, none⟩ = some (.string b.f3) ∧ w'.cell? ⟨bb, 4, none⟩ = some (.slice B4 b.f4.length d4) ∧ w'.cell? ⟨bb, 5, none⟩ = some (.slice B5 b.f5.length d5) ∧ w'.cell? ⟨bd, 1, none⟩ = some (.slice Ao xO.length co)) (ds := [13]) #[false, false, false, false, false, false, false, false, false, false, false, false, false, false] (by kernel_rfl) rfl rfl ⟨HP.out.cl 0 0 rfl rfl, HP.out.cl 0 1 rfl rfl, HP.out.cl 0 2 rfl rfl, HP.out.cl 0 3 rfl rfl, HP.out.cl 0 4 rfl rfl, HP.out.cl 0 5 rfl rfl, (blk_cell HBD.out 1).trans rfl⟩ (fun hHeld => ?_)
    generalize W3.drew = W4 at HP HD HFR HBD hHeld ⊢
    refine pure_ (i := 0) (N := some 30) (v := ?_) (a' := ?_) (ob 14 1) rfl rfl (by kernel_rfl) (fun _ _ _ h => h) (Or.inl ⟨by rfl, ?_⟩) ?_ ?_
    rotate_left
    ·intro w'
     go_simp
     with_reducible rfl
    rotate_left
    ·simp only [Act.put, List.setIfInBounds_toArray, List.set_cons_zero, List.set_cons_succ, i64_w, i32_w]
     rfl
    refine pure_ (i := 1) (N := some 31) (v := ?_) (a' := ?_) (ob 14 3) rfl rfl (by kernel_rfl) (fun _ _ _ h => h) (Or.inl ⟨by rfl, ?_⟩) ?_ ?_
    rotate_left
    ·intro w'
     go_simp
     with_reducible rfl
    rotate_left
    ·simp only [Act.put, List.setIfInBounds_toArray, List.set_cons_zero, List.set_cons_succ, i64_w, i32_w]
     rfl
    refine pure_ (i := 2) (N := some 32) (v := ?_) (a' := ?_) (ob 14 7) rfl rfl (by kernel_rfl) (fun _ _ _ h => h) (Or.inl ⟨by rfl, ?_⟩) ?_ ?_
    rotate_left
    ·intro w'
     go_simp
     with_reducible rfl
    rotate_left
    ·simp only [Act.put, List.setIfInBounds_toArray, List.set_cons_zero, List.set_cons_succ, i64_w, i32_w]
     rfl
    refine pure_ (i := 3) (N := some 33) (v := ?_) (a' := ?_) (ob 14 15) rfl rfl (by kernel_rfl) (fun _ _ _ h => h) (Or.inl ⟨by rfl, ?_⟩) ?_ ?_
    rotate_left
    ·intro w'
     go_simp
     with_reducible rfl
    rotate_left
    ·simp only [Act.put, List.setIfInBounds_toArray, List.set_cons_zero, List.set_cons_succ, i64_w, i32_w]
     rfl
    refine pure_ (i := 5) (N := some 35) (v := ?_) (a' := ?_) (ob 14 47) rfl rfl (by kernel_rfl) (fun _ _ _ h => h) (Or.inl ⟨by rfl, ?_⟩) ?_ ?_
    rotate_left
    ·intro w'
     go_simp
     with_reducible rfl
    rotate_left
    ·simp only [Act.put, List.setIfInBounds_toArray, List.set_cons_zero, List.set_cons_succ, i64_w, i32_w]
     rfl
    refine take_ (i := 4) (N := some 34) (v := ?_) (a' := ?_) (ob 14 63) rfl rfl (by kernel_rfl) (fun _ _ _ h => h) (Or.inl ⟨by rfl, ?_⟩) hHeld ?_ ?_
    rotate_left
    ·rintro w' ⟨s0, s1, s2, s3, s4, s5, s6⟩
     go_simp
     with_reducible rfl
    rotate_left
    ·simp only [Act.put, List.setIfInBounds_toArray, List.set_cons_zero, List.set_cons_succ, i64_w, i32_w]
     rfl
    refine take_ (i := 6) (N := some 36) (v := ?_) (a' := ?_) (ob 14 127) rfl rfl (by kernel_rfl) (fun _ _ _ h => h) (Or.inl ⟨by rfl, ?_⟩) hHeld ?_ ?_
    rotate_left
    ·rintro w' ⟨s0, s1, s2, s3, s4, s5, s6⟩
     go_simp
     with_reducible rfl
    rotate_left
    ·simp only [Act.put, List.setIfInBounds_toArray, List.set_cons_zero, List.set_cons_succ, i64_w, i32_w]
     rfl
    refine one_ (i := 7) (N := some 37) (ob 14 255) rfl rfl (by kernel_rfl) (by decide) (fun K hK => ?_)
    refine goes_ Tryz.func21 (by kernel_rfl) rfl #[.agg #[.int .i64 b.f0, .bool b.f1, .int .i64 b.f2, .string b.f3, .slice B4 b.f4.length d4, .slice B5 b.f5.length d5]] (by rfl) rfl rfl (by simp only [List.map_toArray, List.map_cons, List.map_nil]; rfl) ?_
    with_reducible refine (clone_calls k b B4 d4 B5 d5 x _ (HBV.out.old (HFR.out.old HD0.out HS.out)).now HCL.out).mono ?_
    rintro e y7 ⟨L4, L4c, L5, L5c, rfl, hr, hb⟩
    refine ⟨_, rfl, ?_⟩
    have HX := Aside0.mk (hr.mono (ok' := fun q => (q ≠ bd ∧ some q ≠ (.slice Ag xG.length cg : Value).ownBlock) ∧ some q ≠ (.slice Ao xO.length co : Value).ownBlock) (fun q hq => ⟨⟨by have h_ := blk_lt HD.out.D; omega, fun he => by have h_ := Kd.N_lt HD.out.G q he.symm; omega⟩, fun he => by have h_ := Kd.N_lt HD.out.O q he.symm; omega⟩))
    have n0 := Aside0.mk (HP.out.below hb)
    have n1 := Aside0.mk (HD.out.below hb)
    have n2 := Aside0.mk (HFR.out.below hb)
    have n3 := Aside0.mk (blk_below HBD.out hb)
    clear HP HD HFR HBD
    have HP := n0
    have HD := n1
    have HFR := n2
    have HBD := n3
    clear n0 n1 n2 n3
    clear hr hb
    refine hK.out _ _ ⟨HP.out.cl 0 0 rfl rfl, HP.out.cl 0 1 rfl rfl, HP.out.cl 0 2 rfl rfl, HP.out.cl 0 3 rfl rfl, HP.out.cl 0 4 rfl rfl, HP.out.cl 0 5 rfl rfl, (blk_cell HBD.out 1).trans rfl⟩ (fun hHeld => ?_)
    clear hK K
    refine norm_ (a' := ?_) ?_ ?_
    rotate_left
    ·show Act.put _ (some 37) _ = _
     simp only [Act.put, List.setIfInBounds_toArray, List.set_cons_zero, List.set_cons_succ, i64_w, i32_w]
     rfl
    refine pure_ (i := 8) (N := some 38) (v := ?_) (a' := ?_) (ob 14 511) rfl rfl (by kernel_rfl) (fun _ _ _ h => h) (Or.inl ⟨by rfl, ?_⟩) ?_ ?_
    rotate_left
    ·intro w'
     go_simp
     with_reducible rfl
    rotate_left
    ·simp only [Act.put, List.setIfInBounds_toArray, List.set_cons_zero, List.set_cons_succ, i64_w, i32_w]
     rfl
    refine one_ (i := 9) (N := some 39) (ob 14 1023) rfl rfl (by kernel_rfl) (by decide) (fun K hK => ?_)
    refine value_ (w1 := ?_) (v := ?_) (by rfl) rfl ?_ ?_
    rotate_left 2
    ·go_simp
     constructor
     ·rfl
     ·rfl
    refine hK.out _ _ ⟨(blk_cell ((HP.out.below (below_alloc (Below.refl _ _) _)).get 0 rfl) 0).trans rfl, (blk_cell ((HP.out.below (below_alloc (Below.refl _ _) _)).get 0 rfl) 1).trans rfl, (blk_cell ((HP.out.below (below_alloc (Below.refl _ _) _)).get 0 rfl) 2).trans rfl, (blk_cell ((HP.out.below (below_alloc (Below.refl _ _) _)).get 0 rfl) 3).trans rfl, (blk_cell ((HP.out.below (below_alloc (Below.refl _ _) _)).get 0 rfl) 4).trans rfl, (blk_cell ((HP.out.below (below_alloc (Below.refl _ _) _)).get 0 rfl) 5).trans rfl, (blk_cell (blk_below HBD.out (below_alloc (Below.refl _ _) _)) 1).trans rfl⟩ (fun hHeld => ?_)
    clear hK K
    refine norm_ (a' := ?_) ?_ ?_
    rotate_left
    ·show Act.put _ (some 39) _ = _
     simp only [Act.put, List.setIfInBounds_toArray, List.set_cons_zero, List.set_cons_succ, i64_w, i32_w]
     rfl
    refine one_ (i := 10) (N := some 40) (ob 14 2047) rfl rfl (by kernel_rfl) (by decide) (fun K hK => ?_)
    refine Kd.N_append_step k69 (w0 := y7) B0 (by rfl) (.tmp 34) (.tmp 39) 35 69 (.agg #[.string ⟨#[]⟩, .int .i64 0, .bool false, .int .i64 0, .string ⟨#[]⟩, .slice none 0 0, .slice none 0 0, .bool false]) 112 rfl Tryz.underlying35 info69' rfl (by decide) (by omega) (.slice Ao (xO).length co) (xO) ⟨route, x, false⟩ [.string route, .int .i64 x.f0, .bool x.f1, .int .i64 x.f2, .string x.f3, .slice L4 x.f4.length L4c, .slice L5 x.f5.length L5c, .bool false] (fun q => q ≠ bd ∧ some q ≠ (.slice Ag xG.length cg : Value).ownBlock) _ rfl (by rfl) (k69_mkF _ _ ⟨route, x, false⟩ HX.out) (fun q hq => hq) (fun q hq => ⟨by have h_ := blk_lt HD.out.D; omega, fun he => by have h_ := Kd.N_lt HD.out.G q he.symm; omega⟩) HD.out.O (Below.refl _ _) (Nat.le_trans HD.out.lo (Nat.le_of_lt (blk_lt HD.out.D))) (by have := HN.out.2; omega) ?_
    intro v_ y10 ho hb hg hat
    generalize hxs : xO ++ [(⟨route, x, false⟩ : S69)] = xs_ at ho
    have HXS := Aside0.mk hxs.symm
    clear hxs
    obtain ⟨Ae, ce_, hve⟩ := Kd.N_slice ho
    subst hve
    have HO1 := Aside0.mk ho
    have HG1 := Aside0.mk hg
    have HAT := Aside0.mk hat
    have n0 := Aside0.mk (HP.out.grown hg (HP.out.B.grown hg (by rw [HZ.out]; exact Nat.zero_le _) (fun q_ e_ => by rw [HZ.out]; exact Nat.zero_le _)) (HP.out.apartN2 HD.out.O rfl))
    have n1 := Aside0.mk (blk_grown HBD.out hg (fun he => (HD.out.O.1 bd he.symm).1 rfl))
    clear HP HBD
    have HP := n0
    have HBD := n1
    clear n0 n1
    clear ho hb hg hat
    refine hK.out _ _ ⟨HP.out.cl 0 0 rfl rfl, HP.out.cl 0 1 rfl rfl, HP.out.cl 0 2 rfl rfl, HP.out.cl 0 3 rfl rfl, HP.out.cl 0 4 rfl rfl, HP.out.cl 0 5 rfl rfl, (blk_cell HBD.out 1).trans rfl⟩ (fun hHeld => ?_)
    clear hK K
    refine norm_ (a' := ?_) ?_ ?_
    rotate_left
    ·show Act.put _ (some 40) _ = _
     simp only [Act.put, List.setIfInBounds_toArray, List.set_cons_zero, List.set_cons_succ, i64_w, i32_w]
     rfl
    refine pure_ (i := 11) (N := some 41) (v := ?_) (a' := ?_) (ob 14 4095) rfl rfl (by kernel_rfl) (fun _ _ _ h => h) (Or.inl ⟨by rfl, ?_⟩) ?_ ?_
    rotate_left
    ·intro w'
     go_simp
     with_reducible rfl
    rotate_left
    ·simp only [Act.put, List.setIfInBounds_toArray, List.set_cons_zero, List.set_cons_succ, i64_w, i32_w]
     rfl
    refine pure_ (i := 12) (N := some 42) (v := ?_) (a' := ?_) (ob 14 8191) rfl rfl (by kernel_rfl) (fun _ _ _ h => h) (Or.inl ⟨by rfl, ?_⟩) ?_ ?_
    rotate_left
    ·intro w'
     go_simp
     with_reducible rfl
    rotate_left
    ·simp only [Act.put, List.setIfInBounds_toArray, List.set_cons_zero, List.set_cons_succ, i64_w, i32_w]
     rfl
    refine last_ (i := 13) (N := none) (ob 14 16383) rfl rfl (by kernel_rfl) (by decide) (fun K hK => ?_)
    have yd1 : y10.cell? ⟨bd, 1, none⟩ = some (.slice Ao xO.length co) := (blk_cell HBD.out 1).trans rfl
    have zd1 := blk_frozen HBD.out 1
    refine skip_ (w1 := ?_) (by rfl) rfl ?_ ?_
    rotate_left
    ·go_simp
     rfl
    clear yd1 zd1
    have hps := HD.out.pushO HO1.out HG1.out HAT.out
    have n1 := Aside0.mk hps.1
    have n2 := Aside0.mk (HFR.out.trans hps.2)
    clear HD HFR hps HO1 HG1 HAT HP HBD
    have HD := n1
    have HFR := n2
    clear n1 n2
    generalize y10.setCell ⟨bd, 1, none⟩ (.slice Ae xs_.length ce_) = y13 at HD HFR ⊢
    refine hK.out _ _ ?_
    clear hK K
    refine done_ (by kernel_rfl) ?_
    go_wp2_with fail
    refine bodyPost_ret (results_none rfl _ _ _) rfl ?_
    exact ⟨_, _, rfl, by rw [List.append_nil, ← HXS.out]; exact HD.out, HFR.out⟩
   rw [if_neg ck] at H1
   have hk_ := HKB.out
   rw [decide_eq_false ck] at hk_
   subst hk_
   obtain ⟨all, hall, H1⟩ := Option.bind_eq_some_iff.1 H1
   have HALL := Aside0.mk hall
   by_cases cl : b.f5.length ≤ 1000000 ∧ all.f5.length ≤ 1000000
   case neg => rw [if_neg cl] at H1; cases H1
   rw [if_pos cl] at H1
   have HKS := Aside0.mk H1
   have HLM := Aside0.mk cl
   clear hall H1 ck cl
   go_upto_region 4 with (fail)
   have ya0 : W3.cell? ⟨ba, 0, none⟩ = some (.int .i64 a.f0) := HP.out.cl 1 0 rfl rfl
   have ya1 : W3.cell? ⟨ba, 1, none⟩ = some (.bool a.f1) := HP.out.cl 1 1 rfl rfl
   have ya2 : W3.cell? ⟨ba, 2, none⟩ = some (.int .i64 a.f2) := HP.out.cl 1 2 rfl rfl
   have ya3 : W3.cell? ⟨ba, 3, none⟩ = some (.string a.f3) := HP.out.cl 1 3 rfl rfl
   have ya4 : W3.cell? ⟨ba, 4, none⟩ = some (.slice A4 a.f4.length c4) := HP.out.cl 1 4 rfl rfl
   have ya5 : W3.cell? ⟨ba, 5, none⟩ = some (.slice A5 a.f5.length c5) := HP.out.cl 1 5 rfl rfl
   have HM := Aside0.mk (Below.refl W3.heap.size W3)
   go_upto_region 5 with (((with_reducible refine gate_dst (N := 8) rfl ?_); refine box_event ?hg (N := 8) ?hd (cs := #[.int .i64 0, .bool false, .int .i64 0, .string ⟨#[]⟩, .slice none 0 0, .slice none 0 0]) (t := 25) ?hr ?_; (case hd => rfl); (case hg => rfl); (case hr => first | (go_simp; done) | (go_simp; rfl)); intro bt hg_ W4 hbox hb; have n0 := Aside0.mk (HP.out.new hg_ hbox hb); have n1 := Aside0.mk (below_step HM.out hb); have n2 := Aside0.mk ((show W3.heap.size = bt from hg_.symm)); clear HP HM; have HP := n0; have HM := n1; have HGT := n2; clear n0 n1 n2; clear hg_ hbox hb; have yz0 : W4.cell? ⟨bt, 0, none⟩ = some (.int .i64 0) := HP.out.cl 0 0 rfl rfl; have yz1 : W4.cell? ⟨bt, 1, none⟩ = some (.bool false) := HP.out.cl 0 1 rfl rfl; have yz2 : W4.cell? ⟨bt, 2, none⟩ = some (.int .i64 0) := HP.out.cl 0 2 rfl rfl; have yz3 : W4.cell? ⟨bt, 3, none⟩ = some (.string ⟨#[]⟩) := HP.out.cl 0 3 rfl rfl; have yz4 : W4.cell? ⟨bt, 4, none⟩ = some (.slice none 0 0) := HP.out.cl 0 4 rfl rfl; have yz5 : W4.cell? ⟨bt, 5, none⟩ = some (.slice none 0 0) := HP.out.cl 0 5 rfl rfl; have zz0 := HP.out.fz 0 0 rfl; have zz1 := HP.out.fz 0 1 rfl; have zz2 := HP.out.fz 0 2 rfl; have zz3 := HP.out.fz 0 3 rfl; have zz4 := HP.out.fz 0 4 rfl; have zz5 := HP.out.fz 0 5 rfl))
   have n0 := Aside0.mk (HP.out.six 0 rfl (.int .i64 a.f0) (.bool a.f1) (.int .i64 a.f2) (.string a.f3) (.slice A4 a.f4.length c4) (.slice A5 a.f5.length c5))
   have n1 := Aside0.mk (show Below W3.heap.size W3 ((((((W4.setCell ⟨bt, 0, none⟩ (.int .i64 a.f0)).setCell ⟨bt, 1, none⟩ (.bool a.f1)).setCell ⟨bt, 2, none⟩ (.int .i64 a.f2)).setCell ⟨bt, 3, none⟩ (.string a.f3)).setCell ⟨bt, 4, none⟩ (.slice A4 a.f4.length c4)).setCell ⟨bt, 5, none⟩ (.slice A5 a.f5.length c5)) from below_set (below_set (below_set (below_set (below_set (below_set HM.out (Nat.le_of_eq HGT.out)) (Nat.le_of_eq HGT.out)) (Nat.le_of_eq HGT.out)) (Nat.le_of_eq HGT.out)) (Nat.le_of_eq HGT.out)) (Nat.le_of_eq HGT.out))
   clear HP HM
   have HP := n0
   have HM := n1
   clear n0 n1
   clear yz0 zz0 ya0 yz1 zz1 ya1 yz2 zz2 ya2 yz3 zz3 ya3 yz4 zz4 ya4 yz5 zz5 ya5
   generalize ((((((W4.setCell ⟨bt, 0, none⟩ (.int .i64 a.f0)).setCell ⟨bt, 1, none⟩ (.bool a.f1)).setCell ⟨bt, 2, none⟩ (.int .i64 a.f2)).setCell ⟨bt, 3, none⟩ (.string a.f3)).setCell ⟨bt, 4, none⟩ (.slice A4 a.f4.length c4)).setCell ⟨bt, 5, none⟩ (.slice A5 a.f5.length c5)) = W5 at HP HM ⊢
   have yb5 : W5.cell? ⟨bb, 5, none⟩ = some (.slice B5 b.f5.length d5) := HP.out.cl 1 5 rfl rfl
   have HTA := Aside0.mk (((HA.out.old (HFR.out.old HD0.out HS.out)).below HM.out).mono (ok' := (fun q => q < B0 ∨ bt < q)) (fun q hq => .inl hq))
   have HBT := Aside0.mk (show B0 ≤ bt by rw [← HGT.out]; exact Nat.le_trans HS.out HFR.out.size)
   go_wp2_with fail
   go_loopg [47] b.f5.length (fun kq v_ w' => ∃ (ii : Int) (i : Nat) (t : S25) (T4 : Option Addr) (T4c : Nat) (T5 : Option Addr) (T5c : Nat), v_ = .int .i64 ii ∧ Aside0 (ii = (i : Int)) ∧ Aside0 (i + kq = b.f5.length) ∧ Aside0 (cputs b kq i t = some all) ∧ Aside0 (RdF w' (fun q => q < B0 ∨ bt < q) t T4 T4c T5 T5c) ∧ Aside0 (Below W3.heap.size W3 w') ∧ Aside0 (Bs w0 w' [(bt, #[.int .i64 t.f0, .bool t.f1, .int .i64 t.f2, .string t.f3, .slice T4 t.f4.length T4c, .slice T5 t.f5.length T5c], 25), (bb, #[.int .i64 b.f0, .bool b.f1, .int .i64 b.f2, .string b.f3, .slice B4 b.f4.length d4, .slice B5 b.f5.length d5], 25), (ba, #[.int .i64 a.f0, .bool a.f1, .int .i64 a.f2, .string a.f3, .slice A4 a.f4.length c4, .slice A5 a.f5.length c5], 25)]))
   case atStart => exact ⟨0, 0, a, A4, c4, A5, c5, rfl, ⟨rfl⟩, ⟨by omega⟩, HALL, HTA, HM, HP⟩
   case round =>
    clear HP HM HTA HALL yb5
    obtain ⟨ii, i, t, T4, T4c, T5, T5c, rfl, HII, HI, HALL, HT, HM, HP⟩ := hrel
    cases gk with
    | succ k1 =>
     have H1 := HALL.out
     clear HALL
     rw [cputs] at H1
     by_cases c4_ : i < b.f4.length
     case neg => rw [if_neg c4_] at H1; cases H1
     rw [if_pos c4_, ← HII.out] at H1
     obtain ⟨t2, ht2, H1⟩ := Option.bind_eq_some_iff.1 H1
     have HQ := Aside0.mk ht2
     have HALL := Aside0.mk H1
     clear ht2 H1
     have p0 : 0 ≤ ii := by have := HII.out; omega
     have p1 : ii < (b.f5.length : Int) := by have := HII.out; have := HI.out; omega
     have p2 : ii < (b.f4.length : Int) := by have := HII.out; omega
     clear c4_
     have q0 : decide (0 ≤ ii) = true := decide_eq_true p0
     have q1 : decide (ii < (b.f5.length : Int)) = true := decide_eq_true p1
     have q2 : decide (ii < (b.f4.length : Int)) = true := decide_eq_true p2
     have HBR := Aside0.mk ((HBV.out.old (HFR.out.old HD0.out HS.out)).below HM.out)
     obtain ⟨ak, e_, y0⟩ := Kd.at_string HBR.out.now.2.2.1 ii p0 p1
     cases e_
     obtain ⟨ad, X4, X4c, X5, X5c, e_, x0, x1, x2, x3, x4, x5, hrd⟩ := at_F25 HBR.out.1 ii p0 p2
     cases e_
     generalize rdOf ByteArray.empty b.f5 ii = key at y0 HQ
     generalize rd_T25 b.f4 ii = x at x0 x1 x2 x3 x4 x5 hrd HQ
     have HX := Aside0.mk hrd
     have X0F := Aside0.mk x0
     have X1F := Aside0.mk x1
     have X2F := Aside0.mk x2
     have X3F := Aside0.mk x3
     have X4F := Aside0.mk x4
     have X5F := Aside0.mk x5
     clear hrd x0 x1 x2 x3 x4 x5 HBR
     replace p0 := eq_true p0
     replace p1 := eq_true p1
     replace p2 := eq_true p2
     go_upto_region 8 with (fail)
     clear y0
     have hb := below_drew (Below.refl wr.heap.size wr)
     have n0 := Aside0.mk (HP.out.below hb)
     have n1 := Aside0.mk (below_step HM.out hb)
     have n2 := Aside0.mk (HT.out.below hb)
     have n3 := Aside0.mk (HX.out.below hb)
     have n4 := Aside0.mk ((hb.cell (World.block_lt_of_cell? _ _ X0F.out)).trans X0F.out)
     have n5 := Aside0.mk ((hb.cell (World.block_lt_of_cell? _ _ X1F.out)).trans X1F.out)
     have n6 := Aside0.mk ((hb.cell (World.block_lt_of_cell? _ _ X2F.out)).trans X2F.out)
     have n7 := Aside0.mk ((hb.cell (World.block_lt_of_cell? _ _ X3F.out)).trans X3F.out)
     have n8 := Aside0.mk ((hb.cell (World.block_lt_of_cell? _ _ X4F.out)).trans X4F.out)
     have n9 := Aside0.mk ((hb.cell (World.block_lt_of_cell? _ _ X5F.out)).trans X5F.out)
     clear HP HM HT HX X0F X1F X2F X3F X4F X5F
     have HP := n0
     have HM := n1
     have HT := n2
     have HX := n3
     have X0F := n4
     have X1F := n5
     have X2F := n6
     have X3F := n7
     have X4F := n8
     have X5F := n9
     clear n0 n1 n2 n3 n4 n5 n6 n7 n8 n9
     clear hb
     refine start_ (n := 9) (S := fun w' => w'.cell? ⟨bt, 0, none⟩ = some (.int .i64 t.f0) ∧ w'.cell? ⟨bt, 1, none⟩ = some (.bool t.f1) ∧ w'.cell? ⟨bt, 2, none⟩ = some (.int .i64 t.f2) ∧ w'.cell? ⟨bt, 3, none⟩ = some (.string t.f3) ∧ w'.cell? ⟨bt, 4, none⟩ = some (.slice T4 t.f4.length T4c) ∧ w'.cell? ⟨bt, 5, none⟩ = some (.slice T5 t.f5.length T5c) ∧ w'.cell? ⟨bb, 4, none⟩ = some (.slice (some ad) b.f4.length d4) ∧ w'.cell? (ad.add (ii.toNat * 6)) = some (.int .i64 x.f0) ∧ w'.cell? ⟨(ad.add (ii.toNat * 6)).block, (ad.add (ii.toNat * 6)).off + 1, none⟩ = some (.bool x.f1) ∧ w'.cell? ⟨(ad.add (ii.toNat * 6)).block, (ad.add (ii.toNat * 6)).off + 2, none⟩ = some (.int .i64 x.f2) ∧ w'.cell? ⟨(ad.add (ii.toNat * 6)).block, (ad.add (ii.toNat * 6)).off + 3, none⟩ = some (.string x.f3) ∧ w'.cell? ⟨(ad.add (ii.toNat * 6)).block, (ad.add (ii.toNat * 6)).off + 4, none⟩ = some (.slice X4 x.f4.length X4c) ∧ w'.cell? ⟨(ad.add (ii.toNat * 6)).block, (ad.add (ii.toNat * 6)).off + 5, none⟩ = some (.slice X5 x.f5.length X5c)) (ds := [8]) #[false, false, false, false, false, false, false, false, false] (by kernel_rfl) rfl rfl ⟨HP.out.cl 0 0 rfl rfl, HP.out.cl 0 1 rfl rfl, HP.out.cl 0 2 rfl rfl, HP.out.cl 0 3 rfl rfl, HP.out.cl 0 4 rfl rfl, HP.out.cl 0 5 rfl rfl, HP.out.cl 1 4 rfl rfl, X0F.out, X1F.out, X2F.out, X3F.out, X4F.out, X5F.out⟩ (fun hHeld => ?_)
     generalize wr.drew = y1 at HP HM HT HX X0F X1F X2F X3F X4F X5F hHeld ⊢
     refine pure_ (i := 1) (N := some 53) (v := ?_) (a' := ?_) (ob 9 2) rfl rfl (by kernel_rfl) (fun _ _ _ h => h) (Or.inl ⟨by rfl, ?_⟩) ?_ ?_
     rotate_left
     ·intro w'
      go_simp
      with_reducible rfl
     rotate_left
     ·simp only [Act.put, List.setIfInBounds_toArray, List.set_cons_zero, List.set_cons_succ, i64_w, i32_w]
      rfl
     refine pure_ (i := 2) (N := some 54) (v := ?_) (a' := ?_) (ob 9 6) rfl rfl (by kernel_rfl) (fun _ _ _ h => h) (Or.inl ⟨by rfl, ?_⟩) ?_ ?_
     rotate_left
     ·intro w'
      go_simp
      with_reducible rfl
     rotate_left
     ·simp only [Act.put, List.setIfInBounds_toArray, List.set_cons_zero, List.set_cons_succ, i64_w, i32_w]
      rfl
     refine pure_ (i := 4) (N := some 56) (v := ?_) (a' := ?_) (ob 9 22) rfl rfl (by kernel_rfl) (fun _ _ _ h => h) (Or.inl ⟨by rfl, ?_⟩) ?_ ?_
     rotate_left
     ·intro w'
      go_simp
      with_reducible rfl
     rotate_left
     ·simp only [Act.put, List.setIfInBounds_toArray, List.set_cons_zero, List.set_cons_succ, i64_w, i32_w]
      rfl
     refine take_ (i := 0) (N := some 52) (v := ?_) (a' := ?_) (ob 9 23) rfl rfl (by kernel_rfl) (fun _ _ _ h => h) (Or.inl ⟨by rfl, ?_⟩) hHeld ?_ ?_
     rotate_left
     ·rintro w' ⟨s0, s1, s2, s3, s4, s5, s6, s7, s8, s9, s10, s11, s12⟩
      go_simp
      with_reducible rfl
     rotate_left
     ·simp only [Act.put, List.setIfInBounds_toArray, List.set_cons_zero, List.set_cons_succ, i64_w, i32_w]
      rfl
     refine take_ (i := 3) (N := some 55) (v := ?_) (a' := ?_) (ob 9 31) rfl rfl (by kernel_rfl) (fun _ _ _ h => h) (Or.inl ⟨by rfl, ?_⟩) hHeld ?_ ?_
     rotate_left
     ·rintro w' ⟨s0, s1, s2, s3, s4, s5, s6, s7, s8, s9, s10, s11, s12⟩
      go_simp
      with_reducible rfl
     rotate_left
     ·simp only [Act.put, List.setIfInBounds_toArray, List.set_cons_zero, List.set_cons_succ, i64_w, i32_w]
      rfl
     refine pure_ (i := 5) (N := some 57) (v := ?_) (a' := ?_) (ob 9 63) rfl rfl (by kernel_rfl) (fun _ _ _ h => h) (Or.inl ⟨by rfl, ?_⟩) ?_ ?_
     rotate_left
     ·intro w'
      go_simp
      with_reducible rfl
     rotate_left
     ·simp only [Act.put, List.setIfInBounds_toArray, List.set_cons_zero, List.set_cons_succ, i64_w, i32_w]
      rfl
     refine take_ (i := 6) (N := some 58) (v := ?_) (a' := ?_) (ob 9 127) rfl rfl (by kernel_rfl) (fun _ _ _ h => h) (Or.inl ⟨by rfl, ?_⟩) hHeld ?_ ?_
     rotate_left
     ·rintro w' ⟨s0, s1, s2, s3, s4, s5, s6, s7, s8, s9, s10, s11, s12⟩
      go_simp
      with_reducible rfl
     rotate_left
     ·simp only [Act.put, List.setIfInBounds_toArray, List.set_cons_zero, List.set_cons_succ, i64_w, i32_w]
      rfl
     refine one_ (i := 7) (N := some 59) (ob 9 255) rfl rfl (by kernel_rfl) (by decide) (fun K hK => ?_)
     refine goes_ Tryz.func29 (by kernel_rfl) rfl #[.agg #[.int .i64 t.f0, .bool t.f1, .int .i64 t.f2, .string t.f3, .slice T4 t.f4.length T4c, .slice T5 t.f5.length T5c], .string key, .agg #[.int .i64 x.f0, .bool x.f1, .int .i64 x.f2, .string x.f3, .slice X4 x.f4.length X4c, .slice X5 x.f5.length X5c]] (by rfl) rfl rfl (by simp only [List.map_toArray, List.map_cons, List.map_nil]; rfl) ?_
     with_reducible refine (put_calls t T4 T4c T5 T5c key x X4 X4c X5 X5c t2 _ (fun q => q < B0 ∨ bt < q) HT.out (HX.out.mono (fun q hq => .inl hq)) HQ.out).mono ?_
     rintro e y7 ⟨G4, G4c, G5, G5c, rfl, hr, hb⟩
     refine ⟨_, rfl, ?_⟩
     have LTB := Aside0.mk (HP.out.lt 0 rfl)
     have n9 := Aside0.mk (hr.mono (ok' := (fun q => q < B0 ∨ bt < q)) (fun q hq => hq.elim (fun h_ => h_) (fun h_ => .inr (by have := LTB.out; omega))))
     clear LTB hr HT
     have HT := n9
     clear n9
     have n0 := Aside0.mk (HP.out.below hb)
     have n1 := Aside0.mk (below_step HM.out hb)
     have n2 := Aside0.mk (HX.out.below hb)
     have n3 := Aside0.mk ((hb.cell (World.block_lt_of_cell? _ _ X0F.out)).trans X0F.out)
     have n4 := Aside0.mk ((hb.cell (World.block_lt_of_cell? _ _ X1F.out)).trans X1F.out)
     have n5 := Aside0.mk ((hb.cell (World.block_lt_of_cell? _ _ X2F.out)).trans X2F.out)
     have n6 := Aside0.mk ((hb.cell (World.block_lt_of_cell? _ _ X3F.out)).trans X3F.out)
     have n7 := Aside0.mk ((hb.cell (World.block_lt_of_cell? _ _ X4F.out)).trans X4F.out)
     have n8 := Aside0.mk ((hb.cell (World.block_lt_of_cell? _ _ X5F.out)).trans X5F.out)
     clear HP HM HX X0F X1F X2F X3F X4F X5F
     have HP := n0
     have HM := n1
     have HX := n2
     have X0F := n3
     have X1F := n4
     have X2F := n5
     have X3F := n6
     have X4F := n7
     have X5F := n8
     clear n0 n1 n2 n3 n4 n5 n6 n7 n8
     clear hb
     refine hK.out _ _ ⟨HP.out.cl 0 0 rfl rfl, HP.out.cl 0 1 rfl rfl, HP.out.cl 0 2 rfl rfl, HP.out.cl 0 3 rfl rfl, HP.out.cl 0 4 rfl rfl, HP.out.cl 0 5 rfl rfl, HP.out.cl 1 4 rfl rfl, X0F.out, X1F.out, X2F.out, X3F.out, X4F.out, X5F.out⟩ (fun hHeld => ?_)
     clear hK K
     refine norm_ (a' := ?_) ?_ ?_
     rotate_left
     ·show Act.put _ (some 59) _ = _
      simp only [Act.put, List.setIfInBounds_toArray, List.set_cons_zero, List.set_cons_succ, i64_w, i32_w]
      rfl
     refine last_ (i := 8) (N := none) (ob 9 511) rfl rfl (by kernel_rfl) (by decide) (fun K hK => ?_)
     have yu0 : y7.cell? ⟨bt, 0, none⟩ = some (.int .i64 t.f0) := HP.out.cl 0 0 rfl rfl
     have yu1 : y7.cell? ⟨bt, 1, none⟩ = some (.bool t.f1) := HP.out.cl 0 1 rfl rfl
     have yu2 : y7.cell? ⟨bt, 2, none⟩ = some (.int .i64 t.f2) := HP.out.cl 0 2 rfl rfl
     have yu3 : y7.cell? ⟨bt, 3, none⟩ = some (.string t.f3) := HP.out.cl 0 3 rfl rfl
     have yu4 : y7.cell? ⟨bt, 4, none⟩ = some (.slice T4 t.f4.length T4c) := HP.out.cl 0 4 rfl rfl
     have yu5 : y7.cell? ⟨bt, 5, none⟩ = some (.slice T5 t.f5.length T5c) := HP.out.cl 0 5 rfl rfl
     have zu0 := HP.out.fz 0 0 rfl
     have zu1 := HP.out.fz 0 1 rfl
     have zu2 := HP.out.fz 0 2 rfl
     have zu3 := HP.out.fz 0 3 rfl
     have zu4 := HP.out.fz 0 4 rfl
     have zu5 := HP.out.fz 0 5 rfl
     refine skip_ (w1 := ?_) (by rfl) rfl ?_ ?_
     rotate_left
     ·go_simp
      rfl
     clear yu0 zu0 yu1 zu1 yu2 zu2 yu3 zu3 yu4 zu4 yu5 zu5
     have n0 := Aside0.mk (HP.out.six 0 rfl (.int .i64 t2.f0) (.bool t2.f1) (.int .i64 t2.f2) (.string t2.f3) (.slice G4 t2.f4.length G4c) (.slice G5 t2.f5.length G5c))
     have n1 := Aside0.mk (show Below W3.heap.size W3 ((((((y7.setCell ⟨bt, 0, none⟩ (.int .i64 t2.f0)).setCell ⟨bt, 1, none⟩ (.bool t2.f1)).setCell ⟨bt, 2, none⟩ (.int .i64 t2.f2)).setCell ⟨bt, 3, none⟩ (.string t2.f3)).setCell ⟨bt, 4, none⟩ (.slice G4 t2.f4.length G4c)).setCell ⟨bt, 5, none⟩ (.slice G5 t2.f5.length G5c)) from below_set (below_set (below_set (below_set (below_set (below_set HM.out (Nat.le_of_eq HGT.out)) (Nat.le_of_eq HGT.out)) (Nat.le_of_eq HGT.out)) (Nat.le_of_eq HGT.out)) (Nat.le_of_eq HGT.out)) (Nat.le_of_eq HGT.out))
     have n2 := Aside0.mk (HT.out.six (g := bt) (fun q hq => by have := HBT.out; rcases hq with h_ | h_ <;> omega) (.int .i64 t2.f0) (.bool t2.f1) (.int .i64 t2.f2) (.string t2.f3) (.slice G4 t2.f4.length G4c) (.slice G5 t2.f5.length G5c))
     clear HP HM HT
     have HP := n0
     have HM := n1
     have HT := n2
     clear n0 n1 n2
     clear HX X0F X1F X2F X3F X4F X5F
     generalize ((((((y7.setCell ⟨bt, 0, none⟩ (.int .i64 t2.f0)).setCell ⟨bt, 1, none⟩ (.bool t2.f1)).setCell ⟨bt, 2, none⟩ (.int .i64 t2.f2)).setCell ⟨bt, 3, none⟩ (.string t2.f3)).setCell ⟨bt, 4, none⟩ (.slice G4 t2.f4.length G4c)).setCell ⟨bt, 5, none⟩ (.slice G5 t2.f5.length G5c)) = y8 at HP HM HT ⊢
     refine hK.out _ _ ?_
     clear hK K
     refine done_ (by kernel_rfl) ?_
     go_wp2_with fail
     go_roundg k1
     case measure => omega
     case rel => exact ⟨_, i + 1, t2, G4, G4c, G5, G5c, rfl, ⟨by have h0_ := HLM.out.1; have h1_ := HII.out; have h2_ := HI.out; unfold wrap64; omega⟩, ⟨by have := HI.out; omega⟩, HALL, HT, HM, HP⟩
    | zero =>
     have e0 : decide (ii < (b.f5.length : Int)) = false := decide_eq_false (by have := HII.out; have := HI.out; omega)
     have H1 := HALL.out
     rw [cputs] at H1
     injection H1 with H1
     subst H1
     clear HALL HII HI
     obtain ⟨wL, rfl⟩ : ∃ x_, x_ = wr := ⟨_, rfl⟩
     have LBD := Aside0.mk (show bd < bt by rw [← HGT.out]; exact blk_lt HD.out.D)
     have HT0 := Aside0.mk (HT.out.bound.mono (ok' := fun q => (q < wL.heap.size ∧ q ≠ bd) ∧ some q ≠ (.slice Ag xG.length cg : Value).ownBlock ∧ some q ≠ (.slice Ao xO.length co : Value).ownBlock) (fun q hq => ⟨⟨hq.2, by have h1_ := LBD.out; have h2_ := HD.out.lo; rcases hq.1 with h_ | h_ <;> omega⟩, fun he => by have h1_ := Kd.N_lt HD.out.G q he.symm; have h2_ := Kd.N_base HD.out.G q he.symm; have h3_ := HGT.out; rcases hq.1 with h_ | h_ <;> omega, fun he => by have h1_ := Kd.N_lt HD.out.O q he.symm; have h2_ := Kd.N_base HD.out.O q he.symm; have h3_ := HGT.out; rcases hq.1 with h_ | h_ <;> omega⟩))
     have n0 := Aside0.mk (HD.out.below HM.out)
     have n1 := Aside0.mk (HFR.out.below HM.out)
     clear HD HFR
     have HD := n0
     have HFR := n1
     clear n0 n1
     clear HM HGT HT LBD
     have yt5 : wL.cell? ⟨bt, 5, none⟩ = some (.slice T5 t.f5.length T5c) := HP.out.cl 0 5 rfl rfl
     have HFL := Aside0.mk (Fr.refl wL bd (.slice Ag xG.length cg) (.slice Ao xO.length co))
     have HDL := HD
     have HPL := HP
     have n0 := Aside0.mk (show DS B0 bd wL (.slice Ag xG.length cg) (.slice Ao xO.length co) (xG ++ []) (xO ++ []) by rw [List.append_nil, List.append_nil]; exact HD.out)
     clear HD HP
     have HD := n0
     clear n0
     go_wp2_with fail
     go_loopg [64] t.f5.length (fun kq v_ w' => ∃ (ii : Int) (i : Nat) (uG uO : Value) (gA oA gR oR : List S69), v_ = .int .i64 ii ∧ Aside0 (ii = (i : Int)) ∧ Aside0 (i + kq = t.f5.length) ∧ Aside0 (ckeys (cdiff k n) k a b route t.f5 kq i = some (gR, oR)) ∧ Aside0 (gA ++ gR = g ∧ oA ++ oR = o) ∧ Aside0 (DS B0 bd w' uG uO (xG ++ gA) (xO ++ oA)) ∧ Aside0 (Fr wL w' bd (.slice Ag xG.length cg) (.slice Ao xO.length co) uG uO))
     case atStart => exact ⟨0, 0, _, _, [], [], g, o, rfl, ⟨rfl⟩, ⟨by omega⟩, HKS, ⟨rfl, rfl⟩, HD, HFL⟩
     case round =>
      clear HD HFL HKS yt5
      obtain ⟨ii, i, uG, uO, gA, oA, gR, oR, rfl, HII, HI, HKS, HSP, HD, HFL⟩ := hrel
      cases gk with
      | zero =>
       have e0 : decide (ii < (t.f5.length : Int)) = false := decide_eq_false (by have := HII.out; have := HI.out; omega)
       have H1 := HKS.out
       rw [ckeys] at H1
       injection H1 with H1
       injection H1 with H1 H2
       obtain ⟨s1_, s2_⟩ := HSP.out
       rw [← H1, List.append_nil] at s1_
       rw [← H2, List.append_nil] at s2_
       have n0 := Aside0.mk (show DS B0 bd wr uG uO (xG ++ g) (xO ++ o) by rw [← s1_, ← s2_]; exact HD.out)
       clear H1 H2 s1_ s2_ HD HKS HSP
       go_wp2_with fail
       go_end0
       exact ⟨uG, uO, rfl, n0.out, HFR.out.trans HFL.out⟩
      | succ k1 =>
       have HP := Aside0.mk (HPL.out.fr HZ.out HDL.out HFL.out rfl)
       have H1 := HKS.out
       clear HKS
       rw [ckeys, ← HII.out] at H1
       obtain ⟨rt, hrt, H1⟩ := Option.bind_eq_some_iff.1 H1
       obtain ⟨⟨pG, pO⟩, hp, H1⟩ := Option.bind_eq_some_iff.1 H1
       obtain ⟨⟨rG, rO⟩, hr, H1⟩ := Option.bind_eq_some_iff.1 H1
       injection H1 with H1
       injection H1 with H1 H2
       dsimp only at H1 H2
       have HKS := Aside0.mk hr
       have HJ := Aside0.mk hrt
       have n0 := Aside0.mk (show (gA ++ pG) ++ rG = g ∧ (oA ++ pO) ++ rO = o by rw [List.append_assoc, List.append_assoc, H1, H2]; exact HSP.out)
       clear HSP hr hrt H1 H2
       have HSP := n0
       clear n0
       have p0 : 0 ≤ ii := by have := HII.out; omega
       have p1 : ii < (t.f5.length : Int) := by have := HII.out; have := HI.out; omega
       have q0 : decide (0 ≤ ii) = true := decide_eq_true p0
       have q1 : decide (ii < (t.f5.length : Int)) = true := decide_eq_true p1
       obtain ⟨ak, e_, y0⟩ := Kd.at_string (HT0.out.step (fun q hq _ => HFL.out.block q hq.1.1 hq.1.2 hq.2.1 hq.2.2)).now.2.2.1 ii p0 p1
       cases e_
       generalize rdOf ByteArray.empty t.f5 ii = key at y0 HJ hp
       replace p0 := eq_true p0
       replace p1 := eq_true p1
       unfold cone at hp
       obtain ⟨⟨ia, one⟩, hfa, hp⟩ := Option.bind_eq_some_iff.1 hp
       obtain ⟨⟨ib, two⟩, hfb, hp⟩ := Option.bind_eq_some_iff.1 hp
       dsimp only at hp
       have HFA := Aside0.mk hfa
       have HFB := Aside0.mk hfb
       have HPP := Aside0.mk hp
       clear hfa hfb hp
       have HLG := Aside0.mk (show (xG ++ gA).length + (pG.length + rG.length) ≤ 1000000 ∧ (xO ++ oA).length + (pO.length + rO.length) ≤ 1000000 by obtain ⟨s1_, s2_⟩ := HSP.out; have h1_ := congrArg List.length s1_; have h2_ := congrArg List.length s2_; have h3_ := HN.out; simp only [List.length_append] at h1_ h2_ ⊢; omega)
       generalize hyg : xG ++ gA = yG at HD HLG
       generalize hyo : xO ++ oA = yO at HD HLG
       have HYG := Aside0.mk hyg.symm
       have HYO := Aside0.mk hyo.symm
       clear hyg hyo
       obtain ⟨Ah, ch, hvg⟩ := Kd.N_slice HD.out.G
       subst hvg
       obtain ⟨Ap, cp, hvo⟩ := Kd.N_slice HD.out.O
       subst hvo
       go_upto_region 13 with (fail)
       clear y0
       have ya0 : wr.cell? ⟨ba, 0, none⟩ = some (.int .i64 a.f0) := HP.out.cl 2 0 rfl rfl
       have ya1 : wr.cell? ⟨ba, 1, none⟩ = some (.bool a.f1) := HP.out.cl 2 1 rfl rfl
       have ya2 : wr.cell? ⟨ba, 2, none⟩ = some (.int .i64 a.f2) := HP.out.cl 2 2 rfl rfl
       have ya3 : wr.cell? ⟨ba, 3, none⟩ = some (.string a.f3) := HP.out.cl 2 3 rfl rfl
       have ya4 : wr.cell? ⟨ba, 4, none⟩ = some (.slice A4 a.f4.length c4) := HP.out.cl 2 4 rfl rfl
       have ya5 : wr.cell? ⟨ba, 5, none⟩ = some (.slice A5 a.f5.length c5) := HP.out.cl 2 5 rfl rfl
       go_upto_region 14 with (go_at_call 55; refine (conf_find.calls a.f0 a.f1 a.f2 a.f3 A4 c4 a.f4 A5 c5 a.f5 key ia one _ (HA.out.old ((HFR.out.trans HFL.out).old HD0.out HS.out)).now.1 (HA.out.old ((HFR.out.trans HFL.out).old HD0.out HS.out)).now.2.1 (HA.out.old ((HFR.out.trans HFL.out).old HD0.out HS.out)).now.2.2.1 (HA.out.old ((HFR.out.trans HFL.out).old HD0.out HS.out)).now.2.2.2 HFA.out).mono ?_; rintro e y13 ⟨rfl, hb⟩; have n0 := Aside0.mk (HP.out.below hb); have n1 := Aside0.mk (HD.out.below hb); have n2 := Aside0.mk (HFL.out.below hb); clear HP HD HFL; have HP := n0; have HD := n1; have HFL := n2; clear n0 n1 n2; clear hb)
       clear ya0 ya1 ya2 ya3 ya4 ya5
       have yb0 : y13.cell? ⟨bb, 0, none⟩ = some (.int .i64 b.f0) := HP.out.cl 1 0 rfl rfl
       have yb1 : y13.cell? ⟨bb, 1, none⟩ = some (.bool b.f1) := HP.out.cl 1 1 rfl rfl
       have yb2 : y13.cell? ⟨bb, 2, none⟩ = some (.int .i64 b.f2) := HP.out.cl 1 2 rfl rfl
       have yb3 : y13.cell? ⟨bb, 3, none⟩ = some (.string b.f3) := HP.out.cl 1 3 rfl rfl
       have yb4 : y13.cell? ⟨bb, 4, none⟩ = some (.slice B4 b.f4.length d4) := HP.out.cl 1 4 rfl rfl
       have yb5 : y13.cell? ⟨bb, 5, none⟩ = some (.slice B5 b.f5.length d5) := HP.out.cl 1 5 rfl rfl
       go_upto_region 15 with (go_at_call 55; refine (conf_find.calls b.f0 b.f1 b.f2 b.f3 B4 d4 b.f4 B5 d5 b.f5 key ib two _ (HBV.out.old ((HFR.out.trans HFL.out).old HD0.out HS.out)).now.1 (HBV.out.old ((HFR.out.trans HFL.out).old HD0.out HS.out)).now.2.1 (HBV.out.old ((HFR.out.trans HFL.out).old HD0.out HS.out)).now.2.2.1 (HBV.out.old ((HFR.out.trans HFL.out).old HD0.out HS.out)).now.2.2.2 HFB.out).mono ?_; rintro e y14 ⟨rfl, hb⟩; have n0 := Aside0.mk (HP.out.below hb); have n1 := Aside0.mk (HD.out.below hb); have n2 := Aside0.mk (HFL.out.below hb); clear HP HD HFL; have HP := n0; have HD := n1; have HFL := n2; clear n0 n1 n2; clear hb)
       clear yb0 yb1 yb2 yb3 yb4 yb5
       go_upto_region 17 with (go_at_call 53; refine (conf_joined.calls route key rt _ HJ.out).mono ?_; rintro e y15 ⟨rfl, hd⟩; have hb := hd.below; have n0 := Aside0.mk (HP.out.below hb); have n1 := Aside0.mk (HD.out.below hb); have n2 := Aside0.mk (HFL.out.below hb); clear HP HD HFL; have HP := n0; have HD := n1; have HFL := n2; clear n0 n1 n2; clear hb hd)
       cases two with
       | false =>
        have hp := HPP.out
        rw [if_pos rfl] at hp
        injection hp with hp
        injection hp with h1_ h2_
        subst h1_
        subst h2_
        clear HPP
        have HBD := Aside0.mk HD.out.D
        have yd0 : y15.cell? ⟨bd, 0, none⟩ = some (.slice Ah yG.length ch) := (blk_cell HBD.out 0).trans rfl
        go_wp2_with ((with_reducible refine gate_builtin (b := .append) (xs := #[.tmp 103, .tmp 106]) rfl ?_); (try (refine gate_guard (by rfl) ?_; dsimp only)); at_builtin; refine Kd.N_append k69 (w0 := y15) B0 rfl (.tmp 103) (.tmp 106) 35 69 (.agg #[.string ⟨#[]⟩, .int .i64 0, .bool false, .int .i64 0, .string ⟨#[]⟩, .slice none 0 0, .slice none 0 0, .bool false]) 112 rfl Tryz.underlying35 info69' rfl (by decide) (by omega) (.slice Ah yG.length ch) yG ⟨rt, z25, true⟩ [.string rt, .int .i64 0, .bool false, .int .i64 0, .string ⟨#[]⟩, .slice none 0 0, .slice none 0 0, .bool true] (fun q => q ≠ bd ∧ some q ≠ (.slice Ap yO.length cp : Value).ownBlock) (fun _ => False) rfl (by rfl) (k69_mkF _ _ ⟨rt, z25, true⟩ (RdF.nil _ _ _ _ _ _)) (fun _ h_ => h_.elim) (fun q hq => ⟨by have h_ := blk_lt HD.out.D; omega, fun he => by have h_ := Kd.N_lt HD.out.O q he.symm; omega⟩) HD.out.G (Below.refl _ _) (Nat.le_trans HD.out.lo (Nat.le_of_lt (blk_lt HD.out.D))) (by have h_ := HLG.out.1; simp only [List.length_cons] at h_; omega) ?_; intro v_ y18 ho hb hg hat; generalize hxs : yG ++ [(⟨rt, z25, true⟩ : S69)] = xs_ at ho; have HXS := Aside0.mk hxs.symm; clear hxs; obtain ⟨Ae, ce_, hve⟩ := Kd.N_slice ho; subst hve; have HPU := Aside0.mk (HD.out.pushG ho hg hat); have n8 := Aside0.mk (blk_grown HBD.out hg (fun he => (HD.out.G.1 bd he.symm).1 rfl)); clear HBD; have HBD := n8; clear n8; clear ho hb hg hat; have yd0' : y18.cell? ⟨bd, 0, none⟩ = some (.slice Ah yG.length ch) := (blk_cell HBD.out 0).trans rfl; have zd0' := blk_frozen HBD.out 0)
        go_roundg k1
        case measure => omega
        case rel => exact ⟨_, i + 1, _, _, gA ++ [⟨rt, z25, true⟩], oA ++ [], rG, rO, rfl, ⟨by have h0_ := HLM.out.2; have h1_ := HII.out; have h2_ := HI.out; unfold wrap64; omega⟩, ⟨by have := HI.out; omega⟩, HKS, HSP, ⟨by rw [← List.append_assoc, ← HYG.out, List.append_nil, ← HYO.out, ← HXS.out]; exact HPU.out.1⟩, ⟨HFL.out.trans HPU.out.2⟩⟩
       | true =>
        have hp := HPP.out
        clear HPP
        rw [if_neg (by decide)] at hp
        by_cases cb : 0 ≤ ib ∧ ib < (b.f4.length : Int)
        case neg => rw [if_neg cb] at hp; cases hp
        rw [if_pos cb] at hp
        obtain ⟨b0, b1⟩ := cb
        obtain ⟨ad, Y4, Y4c, Y5, Y5c, e_, x0, x1, x2, x3, x4, x5, hrd⟩ := at_F25 (HBV.out.old ((HFR.out.trans HFL.out).old HD0.out HS.out)).1 ib b0 b1
        cases e_
        generalize rd_T25 b.f4 ib = y at x0 x1 x2 x3 x4 x5 hrd hp
        have HY := Aside0.mk hrd
        have Y0F := Aside0.mk x0
        have Y1F := Aside0.mk x1
        have Y2F := Aside0.mk x2
        have Y3F := Aside0.mk x3
        have Y4F := Aside0.mk x4
        have Y5F := Aside0.mk x5
        clear hrd x0 x1 x2 x3 x4 x5
        have qb0 : decide (0 ≤ ib) = true := decide_eq_true b0
        have qb1 : decide (ib < (b.f4.length : Int)) = true := decide_eq_true b1
        replace b0 := eq_true b0
        replace b1 := eq_true b1
        cases one with
        | false =>
         rw [if_pos rfl] at hp
         obtain ⟨x, hx, hp⟩ := Option.bind_eq_some_iff.1 hp
         injection hp with hp
         injection hp with h1_ h2_
         subst h1_
         subst h2_
         have HCL := Aside0.mk hx
         clear hx
         have HBD := Aside0.mk HD.out.D
         go_upto_region 20 with (fail)
         skip
         have hb := below_drew (Below.refl y15.heap.size y15)
         have n0 := Aside0.mk (HP.out.below hb)
         have n1 := Aside0.mk (HD.out.below hb)
         have n2 := Aside0.mk (HFL.out.below hb)
         have n3 := Aside0.mk (HY.out.below hb)
         have n4 := Aside0.mk (blk_below HBD.out hb)
         have n5 := Aside0.mk ((hb.cell (World.block_lt_of_cell? _ _ Y0F.out)).trans Y0F.out)
         have n6 := Aside0.mk ((hb.cell (World.block_lt_of_cell? _ _ Y1F.out)).trans Y1F.out)
         have n7 := Aside0.mk ((hb.cell (World.block_lt_of_cell? _ _ Y2F.out)).trans Y2F.out)
         have n8 := Aside0.mk ((hb.cell (World.block_lt_of_cell? _ _ Y3F.out)).trans Y3F.out)
         have n9 := Aside0.mk ((hb.cell (World.block_lt_of_cell? _ _ Y4F.out)).trans Y4F.out)
         have n10 := Aside0.mk ((hb.cell (World.block_lt_of_cell? _ _ Y5F.out)).trans Y5F.out)
         clear HP HD HFL HY HBD Y0F Y1F Y2F Y3F Y4F Y5F
         have HP := n0
         have HD := n1
         have HFL := n2
         have HY := n3
         have HBD := n4
         have Y0F := n5
         have Y1F := n6
         have Y2F := n7
         have Y3F := n8
         have Y4F := n9
         have Y5F := n10
         clear n0 n1 n2 n3 n4 n5 n6 n7 n8 n9 n10
         clear hb
         refine start_ (n := 18) (S := fun w' => w'.cell? ⟨bd, 1, none⟩ = some (.slice Ap yO.length cp) ∧ w'.cell? ⟨bb, 4, none⟩ = some (.slice (some ad) b.f4.length d4) ∧ w'.cell? (ad.add (ib.toNat * 6)) = some (.int .i64 y.f0) ∧ w'.cell? ⟨(ad.add (ib.toNat * 6)).block, (ad.add (ib.toNat * 6)).off + 1, none⟩ = some (.bool y.f1) ∧ w'.cell? ⟨(ad.add (ib.toNat * 6)).block, (ad.add (ib.toNat * 6)).off + 2, none⟩ = some (.int .i64 y.f2) ∧ w'.cell? ⟨(ad.add (ib.toNat * 6)).block, (ad.add (ib.toNat * 6)).off + 3, none⟩ = some (.string y.f3) ∧ w'.cell? ⟨(ad.add (ib.toNat * 6)).block, (ad.add (ib.toNat * 6)).off + 4, none⟩ = some (.slice Y4 y.f4.length Y4c) ∧ w'.cell? ⟨(ad.add (ib.toNat * 6)).block, (ad.add (ib.toNat * 6)).off + 5, none⟩ = some (.slice Y5 y.f5.length Y5c)) (ds := [14, 17]) #[false, false, false, false, false, false, false, false, false, false, false, false, false, false, false, false, false, false] (by kernel_rfl) rfl rfl ⟨(blk_cell HBD.out 1).trans rfl, HP.out.cl 1 4 rfl rfl, Y0F.out, Y1F.out, Y2F.out, Y3F.out, Y4F.out, Y5F.out⟩ (fun hHeld => ?_)
         generalize y15.drew = y16 at HP HD HFL HY HBD Y0F Y1F Y2F Y3F Y4F Y5F hHeld ⊢
         refine pure_ (i := 0) (N := some 113) (v := ?_) (a' := ?_) (ob 18 1) rfl rfl (by kernel_rfl) (fun _ _ _ h => h) (Or.inl ⟨by rfl, ?_⟩) ?_ ?_
         rotate_left
         ·intro w'
          go_simp
          with_reducible rfl
         rotate_left
         ·simp only [Act.put, List.setIfInBounds_toArray, List.set_cons_zero, List.set_cons_succ, i64_w, i32_w]
          rfl
         refine pure_ (i := 1) (N := some 114) (v := ?_) (a' := ?_) (ob 18 3) rfl rfl (by kernel_rfl) (fun _ _ _ h => h) (Or.inl ⟨by rfl, ?_⟩) ?_ ?_
         rotate_left
         ·intro w'
          go_simp
          with_reducible rfl
         rotate_left
         ·simp only [Act.put, List.setIfInBounds_toArray, List.set_cons_zero, List.set_cons_succ, i64_w, i32_w]
          rfl
         refine pure_ (i := 2) (N := some 115) (v := ?_) (a' := ?_) (ob 18 7) rfl rfl (by kernel_rfl) (fun _ _ _ h => h) (Or.inl ⟨by rfl, ?_⟩) ?_ ?_
         rotate_left
         ·intro w'
          go_simp
          with_reducible rfl
         rotate_left
         ·simp only [Act.put, List.setIfInBounds_toArray, List.set_cons_zero, List.set_cons_succ, i64_w, i32_w]
          rfl
         refine pure_ (i := 3) (N := some 116) (v := ?_) (a' := ?_) (ob 18 15) rfl rfl (by kernel_rfl) (fun _ _ _ h => h) (Or.inl ⟨by rfl, ?_⟩) ?_ ?_
         rotate_left
         ·intro w'
          go_simp
          with_reducible rfl
         rotate_left
         ·simp only [Act.put, List.setIfInBounds_toArray, List.set_cons_zero, List.set_cons_succ, i64_w, i32_w]
          rfl
         refine pure_ (i := 5) (N := some 118) (v := ?_) (a' := ?_) (ob 18 47) rfl rfl (by kernel_rfl) (fun _ _ _ h => h) (Or.inl ⟨by rfl, ?_⟩) ?_ ?_
         rotate_left
         ·intro w'
          go_simp
          with_reducible rfl
         rotate_left
         ·simp only [Act.put, List.setIfInBounds_toArray, List.set_cons_zero, List.set_cons_succ, i64_w, i32_w]
          rfl
         refine pure_ (i := 6) (N := some 119) (v := ?_) (a' := ?_) (ob 18 111) rfl rfl (by kernel_rfl) (fun _ _ _ h => h) (Or.inl ⟨by rfl, ?_⟩) ?_ ?_
         rotate_left
         ·intro w'
          go_simp
          with_reducible rfl
         rotate_left
         ·simp only [Act.put, List.setIfInBounds_toArray, List.set_cons_zero, List.set_cons_succ, i64_w, i32_w]
          rfl
         refine pure_ (i := 8) (N := some 121) (v := ?_) (a' := ?_) (ob 18 367) rfl rfl (by kernel_rfl) (fun _ _ _ h => h) (Or.inl ⟨by rfl, ?_⟩) ?_ ?_
         rotate_left
         ·intro w'
          go_simp
          with_reducible rfl
         rotate_left
         ·simp only [Act.put, List.setIfInBounds_toArray, List.set_cons_zero, List.set_cons_succ, i64_w, i32_w]
          rfl
         refine take_ (i := 4) (N := some 117) (v := ?_) (a' := ?_) (ob 18 383) rfl rfl (by kernel_rfl) (fun _ _ _ h => h) (Or.inl ⟨by rfl, ?_⟩) hHeld ?_ ?_
         rotate_left
         ·rintro w' ⟨s0, s1, s2, s3, s4, s5, s6, s7⟩
          go_simp
          with_reducible rfl
         rotate_left
         ·simp only [Act.put, List.setIfInBounds_toArray, List.set_cons_zero, List.set_cons_succ, i64_w, i32_w]
          rfl
         refine take_ (i := 7) (N := some 120) (v := ?_) (a' := ?_) (ob 18 511) rfl rfl (by kernel_rfl) (fun _ _ _ h => h) (Or.inl ⟨by rfl, ?_⟩) hHeld ?_ ?_
         rotate_left
         ·rintro w' ⟨s0, s1, s2, s3, s4, s5, s6, s7⟩
          go_simp
          with_reducible rfl
         rotate_left
         ·simp only [Act.put, List.setIfInBounds_toArray, List.set_cons_zero, List.set_cons_succ, i64_w, i32_w]
          rfl
         refine pure_ (i := 9) (N := some 122) (v := ?_) (a' := ?_) (ob 18 1023) rfl rfl (by kernel_rfl) (fun _ _ _ h => h) (Or.inl ⟨by rfl, ?_⟩) ?_ ?_
         rotate_left
         ·intro w'
          go_simp
          with_reducible rfl
         rotate_left
         ·simp only [Act.put, List.setIfInBounds_toArray, List.set_cons_zero, List.set_cons_succ, i64_w, i32_w]
          rfl
         refine take_ (i := 10) (N := some 123) (v := ?_) (a' := ?_) (ob 18 2047) rfl rfl (by kernel_rfl) (fun _ _ _ h => h) (Or.inl ⟨by rfl, ?_⟩) hHeld ?_ ?_
         rotate_left
         ·rintro w' ⟨s0, s1, s2, s3, s4, s5, s6, s7⟩
          go_simp
          with_reducible rfl
         rotate_left
         ·simp only [Act.put, List.setIfInBounds_toArray, List.set_cons_zero, List.set_cons_succ, i64_w, i32_w]
          rfl
         refine one_ (i := 11) (N := some 124) (ob 18 4095) rfl rfl (by kernel_rfl) (by decide) (fun K hK => ?_)
         refine goes_ Tryz.func21 (by kernel_rfl) rfl #[.agg #[.int .i64 y.f0, .bool y.f1, .int .i64 y.f2, .string y.f3, .slice Y4 y.f4.length Y4c, .slice Y5 y.f5.length Y5c]] (by rfl) rfl rfl (by simp only [List.map_toArray, List.map_cons, List.map_nil]; rfl) ?_
         with_reducible refine (clone_calls k y Y4 Y4c Y5 Y5c x _ HY.out.now HCL.out).mono ?_
         rintro e y11 ⟨L4, L4c, L5, L5c, rfl, hr, hb⟩
         refine ⟨_, rfl, ?_⟩
         have HX := Aside0.mk (hr.mono (ok' := fun q => (q ≠ bd ∧ some q ≠ (.slice Ah yG.length ch : Value).ownBlock) ∧ some q ≠ (.slice Ap yO.length cp : Value).ownBlock) (fun q hq => ⟨⟨by have h_ := blk_lt HD.out.D; omega, fun he => by have h_ := Kd.N_lt HD.out.G q he.symm; omega⟩, fun he => by have h_ := Kd.N_lt HD.out.O q he.symm; omega⟩))
         have n0 := Aside0.mk (HP.out.below hb)
         have n1 := Aside0.mk (HD.out.below hb)
         have n2 := Aside0.mk (HFL.out.below hb)
         have n3 := Aside0.mk (HY.out.below hb)
         have n4 := Aside0.mk (blk_below HBD.out hb)
         have n5 := Aside0.mk ((hb.cell (World.block_lt_of_cell? _ _ Y0F.out)).trans Y0F.out)
         have n6 := Aside0.mk ((hb.cell (World.block_lt_of_cell? _ _ Y1F.out)).trans Y1F.out)
         have n7 := Aside0.mk ((hb.cell (World.block_lt_of_cell? _ _ Y2F.out)).trans Y2F.out)
         have n8 := Aside0.mk ((hb.cell (World.block_lt_of_cell? _ _ Y3F.out)).trans Y3F.out)
         have n9 := Aside0.mk ((hb.cell (World.block_lt_of_cell? _ _ Y4F.out)).trans Y4F.out)
         have n10 := Aside0.mk ((hb.cell (World.block_lt_of_cell? _ _ Y5F.out)).trans Y5F.out)
         clear HP HD HFL HY HBD Y0F Y1F Y2F Y3F Y4F Y5F
         have HP := n0
         have HD := n1
         have HFL := n2
         have HY := n3
         have HBD := n4
         have Y0F := n5
         have Y1F := n6
         have Y2F := n7
         have Y3F := n8
         have Y4F := n9
         have Y5F := n10
         clear n0 n1 n2 n3 n4 n5 n6 n7 n8 n9 n10
         clear hr hb
         refine hK.out _ _ ⟨(blk_cell HBD.out 1).trans rfl, HP.out.cl 1 4 rfl rfl, Y0F.out, Y1F.out, Y2F.out, Y3F.out, Y4F.out, Y5F.out⟩ (fun hHeld => ?_)
         clear hK K
         refine norm_ (a' := ?_) ?_ ?_
         rotate_left
         ·show Act.put _ (some 124) _ = _
          simp only [Act.put, List.setIfInBounds_toArray, List.set_cons_zero, List.set_cons_succ, i64_w, i32_w]
          rfl
         refine pure_ (i := 12) (N := some 125) (v := ?_) (a' := ?_) (ob 18 8191) rfl rfl (by kernel_rfl) (fun _ _ _ h => h) (Or.inl ⟨by rfl, ?_⟩) ?_ ?_
         rotate_left
         ·intro w'
          go_simp
          with_reducible rfl
         rotate_left
         ·simp only [Act.put, List.setIfInBounds_toArray, List.set_cons_zero, List.set_cons_succ, i64_w, i32_w]
          rfl
         refine one_ (i := 13) (N := some 126) (ob 18 16383) rfl rfl (by kernel_rfl) (by decide) (fun K hK => ?_)
         refine value_ (w1 := ?_) (v := ?_) (by rfl) rfl ?_ ?_
         rotate_left 2
         ·go_simp
          constructor
          ·rfl
          ·rfl
         refine hK.out _ _ ⟨(blk_cell (blk_below HBD.out (below_alloc (Below.refl _ _) _)) 1).trans rfl, (blk_cell ((HP.out.below (below_alloc (Below.refl _ _) _)).get 1 rfl) 4).trans rfl, ((below_alloc (Below.refl _ _) _).cell (World.block_lt_of_cell? _ _ Y0F.out)).trans Y0F.out, ((below_alloc (Below.refl _ _) _).cell (World.block_lt_of_cell? _ _ Y1F.out)).trans Y1F.out, ((below_alloc (Below.refl _ _) _).cell (World.block_lt_of_cell? _ _ Y2F.out)).trans Y2F.out, ((below_alloc (Below.refl _ _) _).cell (World.block_lt_of_cell? _ _ Y3F.out)).trans Y3F.out, ((below_alloc (Below.refl _ _) _).cell (World.block_lt_of_cell? _ _ Y4F.out)).trans Y4F.out, ((below_alloc (Below.refl _ _) _).cell (World.block_lt_of_cell? _ _ Y5F.out)).trans Y5F.out⟩ (fun hHeld => ?_)
         clear hK K
         refine norm_ (a' := ?_) ?_ ?_
         rotate_left
         ·show Act.put _ (some 126) _ = _
          simp only [Act.put, List.setIfInBounds_toArray, List.set_cons_zero, List.set_cons_succ, i64_w, i32_w]
          rfl
         refine last_ (i := 14) (N := some 127) (ob 18 32767) rfl rfl (by kernel_rfl) (by decide) (fun K hK => ?_)
         refine Kd.N_append_step k69 (w0 := y11) B0 (by rfl) (.tmp 117) (.tmp 126) 35 69 (.agg #[.string ⟨#[]⟩, .int .i64 0, .bool false, .int .i64 0, .string ⟨#[]⟩, .slice none 0 0, .slice none 0 0, .bool false]) 112 rfl Tryz.underlying35 info69' rfl (by decide) (by omega) (.slice Ap (yO).length cp) (yO) ⟨rt, x, false⟩ [.string rt, .int .i64 x.f0, .bool x.f1, .int .i64 x.f2, .string x.f3, .slice L4 x.f4.length L4c, .slice L5 x.f5.length L5c, .bool false] (fun q => q ≠ bd ∧ some q ≠ (.slice Ah yG.length ch : Value).ownBlock) _ rfl (by rfl) (k69_mkF _ _ ⟨rt, x, false⟩ HX.out) (fun q hq => hq) (fun q hq => ⟨by have h_ := blk_lt HD.out.D; omega, fun he => by have h_ := Kd.N_lt HD.out.G q he.symm; omega⟩) HD.out.O (Below.refl _ _) (Nat.le_trans HD.out.lo (Nat.le_of_lt (blk_lt HD.out.D))) (by have h_ := HLG.out.2; simp only [List.length_cons] at h_; omega) ?_
         intro v_ y14_ ho hb hg hat
         generalize hxs : yO ++ [(⟨rt, x, false⟩ : S69)] = xs_ at ho
         have HXS := Aside0.mk hxs.symm
         clear hxs
         obtain ⟨Ae, ce_, hve⟩ := Kd.N_slice ho
         subst hve
         have HO1 := Aside0.mk ho
         have HG1 := Aside0.mk hg
         have HAT := Aside0.mk hat
         have n0 := Aside0.mk (HP.out.grown hg (HP.out.B.grown hg (by rw [HZ.out]; exact Nat.zero_le _) (fun q_ e_ => by rw [HZ.out]; exact Nat.zero_le _)) (HP.out.apartN2 HD.out.O rfl))
         have n1 := Aside0.mk (blk_grown HBD.out hg (fun he => (HD.out.O.1 bd he.symm).1 rfl))
         clear HP HBD
         have HP := n0
         have HBD := n1
         clear n0 n1
         clear ho hb hg hat
         refine hK.out _ _ ?_
         clear hK K
         refine norm_ (a' := ?_) ?_ ?_
         rotate_left
         ·show Act.put _ (some 127) _ = _
          simp only [Act.put, List.setIfInBounds_toArray, List.set_cons_zero, List.set_cons_succ, i64_w, i32_w]
          rfl
         refine pure_ (i := 15) (N := some 128) (v := ?_) (a' := ?_) (ob 18 65535) rfl rfl (by kernel_rfl) (fun _ _ _ h => h) (Or.inl ⟨by rfl, ?_⟩) ?_ ?_
         rotate_left
         ·intro w'
          go_simp
          with_reducible rfl
         rotate_left
         ·simp only [Act.put, List.setIfInBounds_toArray, List.set_cons_zero, List.set_cons_succ, i64_w, i32_w]
          rfl
         refine pure_ (i := 16) (N := some 129) (v := ?_) (a' := ?_) (ob 18 131071) rfl rfl (by kernel_rfl) (fun _ _ _ h => h) (Or.inl ⟨by rfl, ?_⟩) ?_ ?_
         rotate_left
         ·intro w'
          go_simp
          with_reducible rfl
         rotate_left
         ·simp only [Act.put, List.setIfInBounds_toArray, List.set_cons_zero, List.set_cons_succ, i64_w, i32_w]
          rfl
         refine last_ (i := 17) (N := none) (ob 18 262143) rfl rfl (by kernel_rfl) (by decide) (fun K hK => ?_)
         have yd1 : y14_.cell? ⟨bd, 1, none⟩ = some (.slice Ap yO.length cp) := (blk_cell HBD.out 1).trans rfl
         have zd1 := blk_frozen HBD.out 1
         refine skip_ (w1 := ?_) (by rfl) rfl ?_ ?_
         rotate_left
         ·go_simp
          rfl
         clear yd1 zd1
         have hps := HD.out.pushO HO1.out HG1.out HAT.out
         have n1 := Aside0.mk hps.1
         have n2 := Aside0.mk (HFL.out.trans hps.2)
         clear HD HFL hps HO1 HG1 HAT HP HBD Y0F Y1F Y2F Y3F Y4F Y5F
         have HD := n1
         have HFL := n2
         clear n1 n2
         generalize y14_.setCell ⟨bd, 1, none⟩ (.slice Ae xs_.length ce_) = y17 at HD HFL ⊢
         refine hK.out _ _ ?_
         clear hK K
         refine done_ (by kernel_rfl) ?_
         go_wp2_with fail
         go_roundg k1
         case measure => omega
         case rel => exact ⟨_, i + 1, _, _, gA ++ [], oA ++ [⟨rt, x, false⟩], rG, rO, rfl, ⟨by have h0_ := HLM.out.2; have h1_ := HII.out; have h2_ := HI.out; unfold wrap64; omega⟩, ⟨by have := HI.out; omega⟩, HKS, HSP, ⟨by rw [show xG ++ (gA ++ []) = yG by rw [List.append_nil]; exact HYG.out.symm, show xO ++ (oA ++ [⟨rt, x, false⟩]) = xs_ by rw [← List.append_assoc, ← HYO.out]; exact HXS.out.symm]; exact HD.out⟩, HFL⟩
        | true =>
         rw [if_neg (by decide)] at hp
         by_cases ca : 0 ≤ ia ∧ ia < (a.f4.length : Int)
         case neg => rw [if_neg ca] at hp; cases hp
         rw [if_pos ca] at hp
         obtain ⟨a0, a1⟩ := ca
         obtain ⟨ae, X4, X4c, X5, X5c, e_, x0, x1, x2, x3, x4, x5, hrd⟩ := at_F25 (HA.out.old ((HFR.out.trans HFL.out).old HD0.out HS.out)).1 ia a0 a1
         cases e_
         generalize rd_T25 a.f4 ia = x at x0 x1 x2 x3 x4 x5 hrd hp
         have HX := Aside0.mk hrd
         have HREC := Aside0.mk hp
         have X0F := Aside0.mk x0
         have X1F := Aside0.mk x1
         have X2F := Aside0.mk x2
         have X3F := Aside0.mk x3
         have X4F := Aside0.mk x4
         have X5F := Aside0.mk x5
         clear hrd hp x0 x1 x2 x3 x4 x5
         have qa0 : decide (0 ≤ ia) = true := decide_eq_true a0
         have qa1 : decide (ia < (a.f4.length : Int)) = true := decide_eq_true a1
         replace a0 := eq_true a0
         replace a1 := eq_true a1
         go_upto_region 16 with (fail)
         have hb := below_drew (Below.refl y15.heap.size y15)
         have n0 := Aside0.mk (HP.out.below hb)
         have n1 := Aside0.mk (HD.out.below hb)
         have n2 := Aside0.mk (HFL.out.below hb)
         have n3 := Aside0.mk (HY.out.below hb)
         have n4 := Aside0.mk (HX.out.below hb)
         have n5 := Aside0.mk ((hb.cell (World.block_lt_of_cell? _ _ Y0F.out)).trans Y0F.out)
         have n6 := Aside0.mk ((hb.cell (World.block_lt_of_cell? _ _ Y1F.out)).trans Y1F.out)
         have n7 := Aside0.mk ((hb.cell (World.block_lt_of_cell? _ _ Y2F.out)).trans Y2F.out)
         have n8 := Aside0.mk ((hb.cell (World.block_lt_of_cell? _ _ Y3F.out)).trans Y3F.out)
         have n9 := Aside0.mk ((hb.cell (World.block_lt_of_cell? _ _ Y4F.out)).trans Y4F.out)
         have n10 := Aside0.mk ((hb.cell (World.block_lt_of_cell? _ _ Y5F.out)).trans Y5F.out)
         have n11 := Aside0.mk ((hb.cell (World.block_lt_of_cell? _ _ X0F.out)).trans X0F.out)
         have n12 := Aside0.mk ((hb.cell (World.block_lt_of_cell? _ _ X1F.out)).trans X1F.out)
         have n13 := Aside0.mk ((hb.cell (World.block_lt_of_cell? _ _ X2F.out)).trans X2F.out)
         have n14 := Aside0.mk ((hb.cell (World.block_lt_of_cell? _ _ X3F.out)).trans X3F.out)
         have n15 := Aside0.mk ((hb.cell (World.block_lt_of_cell? _ _ X4F.out)).trans X4F.out)
         have n16 := Aside0.mk ((hb.cell (World.block_lt_of_cell? _ _ X5F.out)).trans X5F.out)
         clear HP HD HFL HY HX Y0F Y1F Y2F Y3F Y4F Y5F X0F X1F X2F X3F X4F X5F
         have HP := n0
         have HD := n1
         have HFL := n2
         have HY := n3
         have HX := n4
         have Y0F := n5
         have Y1F := n6
         have Y2F := n7
         have Y3F := n8
         have Y4F := n9
         have Y5F := n10
         have X0F := n11
         have X1F := n12
         have X2F := n13
         have X3F := n14
         have X4F := n15
         have X5F := n16
         clear n0 n1 n2 n3 n4 n5 n6 n7 n8 n9 n10 n11 n12 n13 n14 n15 n16
         clear hb
         refine start_ (n := 13) (S := fun w' => w'.cell? ⟨bb, 4, none⟩ = some (.slice (some ad) b.f4.length d4) ∧ w'.cell? ⟨ba, 4, none⟩ = some (.slice (some ae) a.f4.length c4) ∧ w'.cell? (ad.add (ib.toNat * 6)) = some (.int .i64 y.f0) ∧ w'.cell? ⟨(ad.add (ib.toNat * 6)).block, (ad.add (ib.toNat * 6)).off + 1, none⟩ = some (.bool y.f1) ∧ w'.cell? ⟨(ad.add (ib.toNat * 6)).block, (ad.add (ib.toNat * 6)).off + 2, none⟩ = some (.int .i64 y.f2) ∧ w'.cell? ⟨(ad.add (ib.toNat * 6)).block, (ad.add (ib.toNat * 6)).off + 3, none⟩ = some (.string y.f3) ∧ w'.cell? ⟨(ad.add (ib.toNat * 6)).block, (ad.add (ib.toNat * 6)).off + 4, none⟩ = some (.slice Y4 y.f4.length Y4c) ∧ w'.cell? ⟨(ad.add (ib.toNat * 6)).block, (ad.add (ib.toNat * 6)).off + 5, none⟩ = some (.slice Y5 y.f5.length Y5c) ∧ w'.cell? (ae.add (ia.toNat * 6)) = some (.int .i64 x.f0) ∧ w'.cell? ⟨(ae.add (ia.toNat * 6)).block, (ae.add (ia.toNat * 6)).off + 1, none⟩ = some (.bool x.f1) ∧ w'.cell? ⟨(ae.add (ia.toNat * 6)).block, (ae.add (ia.toNat * 6)).off + 2, none⟩ = some (.int .i64 x.f2) ∧ w'.cell? ⟨(ae.add (ia.toNat * 6)).block, (ae.add (ia.toNat * 6)).off + 3, none⟩ = some (.string x.f3) ∧ w'.cell? ⟨(ae.add (ia.toNat * 6)).block, (ae.add (ia.toNat * 6)).off + 4, none⟩ = some (.slice X4 x.f4.length X4c) ∧ w'.cell? ⟨(ae.add (ia.toNat * 6)).block, (ae.add (ia.toNat * 6)).off + 5, none⟩ = some (.slice X5 x.f5.length X5c)) (ds := [12]) #[false, false, false, false, false, false, false, false, false, false, false, false, false] (by kernel_rfl) rfl rfl ⟨HP.out.cl 1 4 rfl rfl, HP.out.cl 2 4 rfl rfl, Y0F.out, Y1F.out, Y2F.out, Y3F.out, Y4F.out, Y5F.out, X0F.out, X1F.out, X2F.out, X3F.out, X4F.out, X5F.out⟩ (fun hHeld => ?_)
         generalize y15.drew = y16 at HP HD HFL HY HX Y0F Y1F Y2F Y3F Y4F Y5F X0F X1F X2F X3F X4F X5F hHeld ⊢
         refine pure_ (i := 0) (N := some 83) (v := ?_) (a' := ?_) (ob 13 1) rfl rfl (by kernel_rfl) (fun _ _ _ h => h) (Or.inl ⟨by rfl, ?_⟩) ?_ ?_
         rotate_left
         ·intro w'
          go_simp
          with_reducible rfl
         rotate_left
         ·simp only [Act.put, List.setIfInBounds_toArray, List.set_cons_zero, List.set_cons_succ, i64_w, i32_w]
          rfl
         refine pure_ (i := 1) (N := some 84) (v := ?_) (a' := ?_) (ob 13 3) rfl rfl (by kernel_rfl) (fun _ _ _ h => h) (Or.inl ⟨by rfl, ?_⟩) ?_ ?_
         rotate_left
         ·intro w'
          go_simp
          with_reducible rfl
         rotate_left
         ·simp only [Act.put, List.setIfInBounds_toArray, List.set_cons_zero, List.set_cons_succ, i64_w, i32_w]
          rfl
         refine pure_ (i := 3) (N := some 86) (v := ?_) (a' := ?_) (ob 13 11) rfl rfl (by kernel_rfl) (fun _ _ _ h => h) (Or.inl ⟨by rfl, ?_⟩) ?_ ?_
         rotate_left
         ·intro w'
          go_simp
          with_reducible rfl
         rotate_left
         ·simp only [Act.put, List.setIfInBounds_toArray, List.set_cons_zero, List.set_cons_succ, i64_w, i32_w]
          rfl
         refine pure_ (i := 6) (N := some 89) (v := ?_) (a' := ?_) (ob 13 75) rfl rfl (by kernel_rfl) (fun _ _ _ h => h) (Or.inl ⟨by rfl, ?_⟩) ?_ ?_
         rotate_left
         ·intro w'
          go_simp
          with_reducible rfl
         rotate_left
         ·simp only [Act.put, List.setIfInBounds_toArray, List.set_cons_zero, List.set_cons_succ, i64_w, i32_w]
          rfl
         refine pure_ (i := 8) (N := some 91) (v := ?_) (a' := ?_) (ob 13 331) rfl rfl (by kernel_rfl) (fun _ _ _ h => h) (Or.inl ⟨by rfl, ?_⟩) ?_ ?_
         rotate_left
         ·intro w'
          go_simp
          with_reducible rfl
         rotate_left
         ·simp only [Act.put, List.setIfInBounds_toArray, List.set_cons_zero, List.set_cons_succ, i64_w, i32_w]
          rfl
         refine pure_ (i := 11) (N := some 94) (v := ?_) (a' := ?_) (ob 13 2379) rfl rfl (by kernel_rfl) (fun _ _ _ h => h) (Or.inl ⟨by rfl, ?_⟩) ?_ ?_
         rotate_left
         ·intro w'
          go_simp
          with_reducible rfl
         rotate_left
         ·simp only [Act.put, List.setIfInBounds_toArray, List.set_cons_zero, List.set_cons_succ, i64_w, i32_w]
          rfl
         refine take_ (i := 2) (N := some 85) (v := ?_) (a' := ?_) (ob 13 2383) rfl rfl (by kernel_rfl) (fun _ _ _ h => h) (Or.inl ⟨by rfl, ?_⟩) hHeld ?_ ?_
         rotate_left
         ·rintro w' ⟨s0, s1, s2, s3, s4, s5, s6, s7, s8, s9, s10, s11, s12, s13⟩
          go_simp
          with_reducible rfl
         rotate_left
         ·simp only [Act.put, List.setIfInBounds_toArray, List.set_cons_zero, List.set_cons_succ, i64_w, i32_w]
          rfl
         refine pure_ (i := 4) (N := some 87) (v := ?_) (a' := ?_) (ob 13 2399) rfl rfl (by kernel_rfl) (fun _ _ _ h => h) (Or.inl ⟨by rfl, ?_⟩) ?_ ?_
         rotate_left
         ·intro w'
          go_simp
          with_reducible rfl
         rotate_left
         ·simp only [Act.put, List.setIfInBounds_toArray, List.set_cons_zero, List.set_cons_succ, i64_w, i32_w]
          rfl
         refine take_ (i := 5) (N := some 88) (v := ?_) (a' := ?_) (ob 13 2431) rfl rfl (by kernel_rfl) (fun _ _ _ h => h) (Or.inl ⟨by rfl, ?_⟩) hHeld ?_ ?_
         rotate_left
         ·rintro w' ⟨s0, s1, s2, s3, s4, s5, s6, s7, s8, s9, s10, s11, s12, s13⟩
          go_simp
          with_reducible rfl
         rotate_left
         ·simp only [Act.put, List.setIfInBounds_toArray, List.set_cons_zero, List.set_cons_succ, i64_w, i32_w]
          rfl
         refine take_ (i := 7) (N := some 90) (v := ?_) (a' := ?_) (ob 13 2559) rfl rfl (by kernel_rfl) (fun _ _ _ h => h) (Or.inl ⟨by rfl, ?_⟩) hHeld ?_ ?_
         rotate_left
         ·rintro w' ⟨s0, s1, s2, s3, s4, s5, s6, s7, s8, s9, s10, s11, s12, s13⟩
          go_simp
          with_reducible rfl
         rotate_left
         ·simp only [Act.put, List.setIfInBounds_toArray, List.set_cons_zero, List.set_cons_succ, i64_w, i32_w]
          rfl
         refine pure_ (i := 9) (N := some 92) (v := ?_) (a' := ?_) (ob 13 3071) rfl rfl (by kernel_rfl) (fun _ _ _ h => h) (Or.inl ⟨by rfl, ?_⟩) ?_ ?_
         rotate_left
         ·intro w'
          go_simp
          with_reducible rfl
         rotate_left
         ·simp only [Act.put, List.setIfInBounds_toArray, List.set_cons_zero, List.set_cons_succ, i64_w, i32_w]
          rfl
         refine take_ (i := 10) (N := some 93) (v := ?_) (a' := ?_) (ob 13 4095) rfl rfl (by kernel_rfl) (fun _ _ _ h => h) (Or.inl ⟨by rfl, ?_⟩) hHeld ?_ ?_
         rotate_left
         ·rintro w' ⟨s0, s1, s2, s3, s4, s5, s6, s7, s8, s9, s10, s11, s12, s13⟩
          go_simp
          with_reducible rfl
         rotate_left
         ·simp only [Act.put, List.setIfInBounds_toArray, List.set_cons_zero, List.set_cons_succ, i64_w, i32_w]
          rfl
         refine last_ (i := 12) (N := some 95) (ob 13 8191) rfl rfl (by kernel_rfl) (by decide) (fun K hK => ?_)
         refine goes_ Tryz.func25 (by kernel_rfl) rfl #[.pointer (some ⟨bd, 0, none⟩), .agg #[.int .i64 x.f0, .bool x.f1, .int .i64 x.f2, .string x.f3, .slice X4 x.f4.length X4c, .slice X5 x.f5.length X5c], .agg #[.int .i64 y.f0, .bool y.f1, .int .i64 y.f2, .string y.f3, .slice Y4 y.f4.length Y4c, .slice Y5 y.f5.length Y5c], .string rt] (by rfl) rfl rfl (by simp only [List.map_toArray, List.map_cons, List.map_nil]; rfl) ?_
         with_reducible refine (IH.out x X4 X4c X5 X5c y Y4 Y4c Y5 Y5c rt pG pO _ B0 bd _ _ yG yO HX.out HY.out HD.out (Nat.le_trans HD.out.lo (Nat.le_of_lt (blk_lt HD.out.D))) (by have h_ := HLG.out; omega) HREC.out).mono ?_
         rintro e y12 ⟨uG2, uO2, rfl, hd, hf⟩
         refine ⟨_, rfl, ?_⟩
         have n1 := Aside0.mk hd
         have n2 := Aside0.mk (HFL.out.trans hf)
         clear HD HFL HP HX HY hd hf Y0F X0F Y1F X1F Y2F X2F Y3F X3F Y4F X4F Y5F X5F
         have HD := n1
         have HFL := n2
         clear n1 n2
         refine hK.out _ _ ?_
         clear hK K
         refine norm_ (a' := ?_) ?_ ?_
         rotate_left
         ·show Act.put _ (some 95) _ = _
          simp only [Act.put, List.setIfInBounds_toArray, List.set_cons_zero, List.set_cons_succ, i64_w, i32_w]
          rfl
         refine done_ (by kernel_rfl) ?_
         go_wp2_with fail
         go_roundg k1
         case measure => omega
         case rel => exact ⟨_, i + 1, uG2, uO2, gA ++ pG, oA ++ pO, rG, rO, rfl, ⟨by have h0_ := HLM.out.2; have h1_ := HII.out; have h2_ := HI.out; unfold wrap64; omega⟩, ⟨by have := HI.out; omega⟩, HKS, HSP, ⟨by rw [show xG ++ (gA ++ pG) = yG ++ pG by rw [← List.append_assoc, ← HYG.out], show xO ++ (oA ++ pO) = yO ++ pO by rw [← List.append_assoc, ← HYO.out]]; exact HD.out⟩, HFL⟩
end Go.Proofs.YtlofkjdcapbohaaGreatDoor.PConfKeeps
