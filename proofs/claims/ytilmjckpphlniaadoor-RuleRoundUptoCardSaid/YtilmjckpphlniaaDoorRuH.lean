/- For the law RuleRound: single and form, walked. No condition. -/
import Derived.Test.YtilmjckpphlniaaDoorRuG
namespace Go.Proofs.YtilmjckpphlniaaDoor.PRuleRound
open Go.RowKit Go.Proofs.YtilmjckpphlniaaDoorW.PrintWords Go.Proofs.YtilmjckpphlniaaDoorW.PrintLast Go.Proofs.YtilmjckpphlniaaDoorW.PrintMore
set_option linter.unusedVariables false
set_option linter.unusedSimpArgs false

def SGn (n : Nat) : Prop := ∀ t : S47, OkT n t → t.f0 ≠ 2 → SgC (kb (tx n)) t
theorem okT_op {n : Nat} {t : S47} (h : OkT n t) : t.f0 = 1 ∨ t.f0 = 2 ∨ t.f0 = 3 ∨ t.f0 = 4 := by
  cases n with
  | zero => exact h.elim
  | succ n => obtain ⟨_, _, h⟩ := h; rcases h with h | h | h <;> omega
theorem eta47 {a : Int} {t : S47} (h0 : t.f0 = a) (h1 : t.f1 = 0) (h2 : t.f2 = 0) (h3 : t.f3 = 0) : t = ⟨a, 0, 0, 0, t.f4⟩ := by
  cases t; dsimp only at *; subst h0; subst h1; subst h2; subst h3; rfl
theorem kb_within {n : Nat} {t : S47} (h : t.f0 = 1) : kb (tx (n + 1)) t = wt t := by
  unfold kb; rw [if_neg (by omega), tx, if_neg (by omega), if_neg (by omega), if_neg (by omega)]
theorem kb_all {n : Nat} {t : S47} (h : t.f0 = 2) : kb (tx (n + 1)) t = Lib.join (t.f4.map (kb (tx n))) sAnd := by
  unfold kb; rw [if_neg (by omega), tx, if_pos h]; rfl
theorem kb_some {n : Nat} {t : S47} (h : t.f0 = 3) : kb (tx (n + 1)) t = [40] ++ (Lib.join (t.f4.map (kb (tx n))) sOr ++ [41]) := by
  unfold kb; rw [if_pos h, tx, if_neg (by omega), if_pos h, List.append_assoc]; rfl
theorem kb_none {n : Nat} {t : S47} (h : t.f0 = 4) : kb (tx (n + 1)) t = [33, 40] ++ (Lib.join (t.f4.map (kb (tx n))) sOr ++ [41]) := by
  unfold kb; rw [if_neg (by omega), tx, if_neg (by omega), if_neg (by omega), if_pos h, List.append_assoc]; rfl
theorem wt_head (t : S47) : ∃ r, wt t = 110 :: r := ⟨_, by unfold wt; rfl⟩
theorem al_of (n : Nat) (h1 : SGn n) (h0 : ∀ m, n = m + 1 → SGn m) (t : S47) (none_ : Bool) (ht : OkT n t) (hn : t.f0 = 3 → none_ = true) : AlC none_ (kb (tx n)) t := by
  intro m rest s i w0 w g hA hf hamp hi hr
  cases n with
  | zero => exact ht.elim
  | succ n =>
  by_cases c : t.f0 = 2
  · have hk := kb_all (n := n) c
    rw [hk] at hA ⊢
    obtain ⟨hkids, ⟨hlen, _⟩, hop⟩ := ht
    obtain ⟨_, h2, z1, z2, z3, hne⟩ : (t.f0 = 2 ∨ t.f0 = 3) ∧ 2 ≤ t.f4.length ∧ t.f1 = 0 ∧ t.f2 = 0 ∧ t.f3 = 0 ∧ ∀ k ∈ t.f4, k.f0 ≠ t.f0 := by
      rcases hop with h | h | h
      · omega
      · exact h
      · omega
    have he : allOf t.f4 = t := by
      have h3 := eta47 c z1 z2 z3
      generalize hl : t.f4 = l at h2 h3
      match l, h2 with
      | x :: y :: l, _ => exact h3.symm
    have := all_calls none_ (kb (tx n)) t.f4 (fun h_ => by rw [h_] at h2; simp at h2) hlen (fun k hk => h0 n rfl k (hkids k hk) (fun h_ => hne k hk (h_.trans c.symm))) m rest s i w0 w g hA hf hamp (fun h_ => by omega) hi hr
    rw [he] at this
    exact this
  · have hj : Lib.join ([t].map (kb (tx (n + 1)))) sAnd = kb (tx (n + 1)) t := by rw [List.map_cons, List.map_nil, Lib.join_one]
    have := all_calls none_ (kb (tx (n + 1))) [t] (by simp) (by simp) (fun k hk => by rw [List.mem_singleton] at hk; subst hk; exact h1 k ht c) m rest s i w0 w g (by rw [hj]; exact hA) hf hamp (fun _ hp => by
      rw [hj] at hp
      rcases okT_op ht with h | h | h | h
      · rw [kb_within h] at hp
        obtain ⟨r, e⟩ := wt_head t
        rw [e] at hp
        cases hp
      · exact absurd h c
      · exact hn h
      · rw [kb_none h] at hp; cases hp) hi hr
    rw [hj] at this
    exact this
set_option maxHeartbeats 4000000 in
set_option maxRecDepth 100000 in
theorem sg_step (n : Nat) (hal : ∀ (t : S47) (none_ : Bool), OkT n t → (t.f0 = 3 → none_ = true) → AlC none_ (kb (tx n)) t) : SGn (n + 1) := by
  intro t ht hn2 m rest s i w0 w g hA hf hi hr
  have hu47 := Tryd.underlying47
  have hu22 := Tryd.underlying22
  have hu52 := Tryd.underlying52
  have HOP := Aside0.mk (okT_op ht)
  obtain ⟨hkids, ⟨hlen, _⟩, hop⟩ := ht
  have HAL := Aside0.mk hal
  have HK := Aside0.mk hkids
  have HLN := Aside0.mk hlen
  have HA := Aside0.mk hA
  have HF := Aside0.mk hf
  have HI := Aside0.mk hi
  have HRU := Aside0.mk hr
  have HP := Aside0.mk (Bg.start hr.S)
  have LG := Aside0.mk (blk_lt hr.S)
  have HH := Aside0.mk hop
  have HN2 := Aside0.mk hn2
  clear hal hkids hlen hA hf hi hr hop hn2
  go_enter Tryd.func70, Tryd.ntmps70
  go_upto_region 1 with ((with_reducible refine gate_dst (N := 2) rfl ?_); refine box_event ?hg (N := 2) ?hd (cs := #[.int .i64 0, .int .i64 0, .int .i64 0, .int .i64 0, .slice none 0 0]) (t := 47) ?hr ?_; (case hd => rfl); (case hg => rfl); (case hr => first | (go_simp; done) | (go_simp; rfl)); intro br hg_ w1 hbox hb; have n0 := Aside0.mk (HP.out.new hg_ hbox hb); clear HP; have HP := n0; clear n0; clear hg_ hbox hb)
  have LBW := Aside0.mk (show w.heap.size ≤ br from (HP.out.low 0 rfl).elim (fun h_ => h_) (fun h_ => by have h1_ := HP.out.nd 0 1 _ _ (by omega) rfl rfl; dsimp only at h1_; omega))
  have yg1 : w1.cell? ⟨g, 1, none⟩ = some (.int .i64 i) := (blk_cell (HP.out.get 1 rfl) 1).trans rfl
  have yg3 : w1.cell? ⟨g, 3, none⟩ = some (.bool false) := (blk_cell (HP.out.get 1 rfl) 3).trans rfl
  go_upto_region 3 with (fail)
  clear yg1 yg3
  by_cases c1 : t.f0 = 1
  case pos =>
    have hh : t.f4 = [] ∧ (t.f1 = 0 ∨ 2 ≤ t.f1 ∧ t.f1 ≤ 1000000) ∧ 0 ≤ t.f2 ∧ t.f2 ≤ t.f3 ∧ t.f3 ≤ 1000000000 := by rcases HH.out with h | h | h; (exact h.2); (omega); (omega)
    have HW := Aside0.mk hh
    have H1 := Aside0.mk c1
    have HT := Aside0.mk (kb_within (n := n) c1)
    have HA1 := Aside0.mk (show At s m (wt t ++ rest) by rw [← HT.out]; exact HA.out)
    clear hh c1 HA
    obtain ⟨r0, hr0⟩ := wt_head t
    have HPR := Aside0.mk (show ([40] : List UInt8).isPrefixOf (wt t ++ rest) = false by rw [hr0]; rfl)
    have HPN := Aside0.mk (show ([33] : List UInt8).isPrefixOf (wt t ++ rest) = false by rw [hr0]; rfl)
    clear hr0
    go_upto_region 10 with (go_at_call 17; refine (is_calls ⟨#[40]⟩ m false HA1.out HPR.out HI.out (HP.out.ru HRU.out 1 rfl)).mono ?_; rintro e w2 ⟨rfl, hr_, hg_⟩; have n0 := Aside0.mk (HP.out.move 1 rfl hg_ hr_.S); clear HP; have HP := n0; clear n0; clear hr_ hg_)
    go_upto_region 15 with (go_at_call 17; refine (is_calls ⟨#[33]⟩ m false HA1.out HPN.out HI.out (HP.out.ru HRU.out 1 rfl)).mono ?_; rintro e w3 ⟨rfl, hr_, hg_⟩; have n0 := Aside0.mk (HP.out.move 1 rfl hg_ hr_.S); clear HP; have HP := n0; clear n0; clear hr_ hg_)
    go_wp2_with (go_at_call 83; refine (within_calls t m rest s i w0 _ g H1.out HW.out.1 HW.out.2.1 HW.out.2.2.1 HW.out.2.2.2.1 HW.out.2.2.2.2 HA1.out HF.out HI.out (HP.out.ru HRU.out 1 rfl)).mono ?_; rintro e w4 ⟨rfl, q1, hq_, hr_, hg_⟩; have n0 := Aside0.mk (HP.out.move 1 rfl hg_ hr_.S); clear HP; have HP := n0; clear n0; clear hr_ hg_; have Hq1 := Aside0.mk hq_; clear hq_; have yr0 : w4.cell? ⟨br, 0, none⟩ = some (.int .i64 0) := (blk_cell (HP.out.get 0 rfl) 0).trans rfl; have yr1 : w4.cell? ⟨br, 1, none⟩ = some (.int .i64 0) := (blk_cell (HP.out.get 0 rfl) 1).trans rfl; have yr2 : w4.cell? ⟨br, 2, none⟩ = some (.int .i64 0) := (blk_cell (HP.out.get 0 rfl) 2).trans rfl; have yr3 : w4.cell? ⟨br, 3, none⟩ = some (.int .i64 0) := (blk_cell (HP.out.get 0 rfl) 3).trans rfl; have yr4 : w4.cell? ⟨br, 4, none⟩ = some (.slice none 0 0) := (blk_cell (HP.out.get 0 rfl) 4).trans rfl; have zr0 := blk_frozen (HP.out.get 0 rfl) 0; have zr1 := blk_frozen (HP.out.get 0 rfl) 1; have zr2 := blk_frozen (HP.out.get 0 rfl) 2; have zr3 := blk_frozen (HP.out.get 0 rfl) 3; have zr4 := blk_frozen (HP.out.get 0 rfl) 4)
    refine bodyPost_ret (results_cell_row rfl _ _ br 47 #[.int .i64 t.f0, .int .i64 t.f1, .int .i64 t.f2, .int .i64 t.f3, .slice none 0 0] (0, 0) _ rfl ((HP.out.five 0 rfl (.int .i64 t.f0) (.int .i64 t.f1) (.int .i64 t.f2) (.int .i64 t.f3) (.slice none 0 0)).get 0 rfl) Tryd.underlying47 rfl (by kernel_rfl)) rfl ?_
    have ha := (HP.out.five 0 rfl (.int .i64 t.f0) (.int .i64 t.f1) (.int .i64 t.f2) (.int .i64 t.f3) (.slice none 0 0))
    have e4 := HW.out.1
    refine ⟨none, 0, by rw [e4]; rfl, ?_, fin_mk (by rw [HT.out]; exact Hq1.out) (ha.ru HRU.out 1 rfl) ha.G⟩
    unfold RtF
    rw [e4]
    exact ⟨Kd.F_nil _ _ _, Nat.le_refl _⟩
  by_cases c3 : t.f0 = 3
  case pos =>
    have hh : 2 ≤ t.f4.length ∧ t.f1 = 0 ∧ t.f2 = 0 ∧ t.f3 = 0 ∧ ∀ k ∈ t.f4, k.f0 ≠ t.f0 := by rcases HH.out with h | h | h; (omega); (exact h.2); (omega)
    have HW := Aside0.mk hh
    have HC := Aside0.mk c3
    have HZ := Aside0.mk (show t.f0 = 3 ∧ t.f1 = 0 ∧ t.f2 = 0 ∧ t.f3 = 0 from ⟨c3, hh.2.1, hh.2.2.1, hh.2.2.2.1⟩)
    have HNE := Aside0.mk (show t.f4 ≠ [] from fun h_ => by have h2_ := hh.1; rw [h_] at h2_; simp at h2_)
    have HT := Aside0.mk (kb_some (n := n) c3)
    have HA1 := Aside0.mk (show At s m ([40] ++ (Lib.join (t.f4.map (kb (tx n))) sOr ++ (41 :: rest))) by have h_ := HA.out; rw [HT.out] at h_; simpa using h_)
    clear hh c1 c3 HA
    have HA2 := Aside0.mk HA1.out.next
    go_upto_region 4 with (go_at_call 17; refine (is_calls ⟨#[40]⟩ m true HA1.out rfl HI.out (HP.out.ru HRU.out 1 rfl)).mono ?_; rintro e w2 ⟨rfl, hr_, hg_⟩; have n0 := Aside0.mk (HP.out.move 1 rfl hg_ hr_.S); clear HP; have HP := n0; clear n0; clear hr_ hg_)
    have yg1 : w2.cell? ⟨g, 1, none⟩ = some (.int .i64 i) := (blk_cell (HP.out.get 1 rfl) 1).trans rfl
    have zg1 := blk_frozen (HP.out.get 1 rfl) 1
    have b0 : 0 ≤ i := by have := HI.out; omega
    have b1 : i ≤ 2000 := by have h1_ := HA1.out.bound; have := HI.out; omega
    go_upto_region 5 with (fail)
    have n0 := Aside0.mk ((HP.out.put' 1 rfl 1 (.int .i64 (i + 1)) rfl).1)
    clear HP
    have HP := n0
    clear n0
    clear yg1 zg1 b0 b1
    generalize (w2.setCell ⟨g, 1, none⟩ (.int .i64 (i + 1))) = w5 at HP ⊢
    have HQ5 := Aside0.mk (show i + 1 = ((m + 1 : Nat) : Int) by have := HI.out; omega)
    obtain ⟨q5, hq5⟩ : ∃ x, x = i + 1 := ⟨_, rfl⟩
    rw [← hq5] at HP HQ5
    clear hq5
    have LBK := Aside0.mk (HP.out.lt 0 rfl)
    have LWS := Aside0.mk HP.out.size
    go_upto_region 6 with (go_at_call 33; refine (some_calls false (kb (tx n)) t.f4 HNE.out HLN.out (fun k hk => HAL.out k false (HK.out k hk) (fun h_ => absurd (h_.trans HC.out.symm) (HW.out.2.2.2.2 k hk))) (m + 1) (41 :: rest) s q5 w0 _ g HA2.out (fun c hc => by simp at hc; exact .inl hc.symm) rfl rfl HQ5.out (HP.out.ru HRU.out 1 rfl)).mono ?_; rintro e w6 ⟨A4, c4, rfl, hx_, hl_, q3, hq_, hr_, hg_⟩; have HX := Aside0.mk hx_; have HLC := Aside0.mk hl_; have Hq3 := Aside0.mk hq_; have n0 := Aside0.mk (HP.out.move 1 rfl hg_ hr_.S); clear HP; have HP := n0; clear n0; clear hx_ hl_ hq_ hr_ hg_)
    have HA7 := Aside0.mk (show At s ((m + 1) + (Lib.join (t.f4.map (kb (tx n))) sOr).length) (41 :: rest) from (HA2.out).next)
    have XB := Aside0.mk (Kd.F_mono (ok' := fun k => w.heap.size ≤ k ∧ br < k) HX.out (fun k hk => ⟨Nat.le_trans LWS.out hk, Nat.lt_of_lt_of_le LBK.out hk⟩))
    clear HX
    have HX := XB
    clear XB
    have e1 : ((t.f4.length : Int) == 1) = false := beq_eq_false_iff_ne.2 (by have := HW.out.1; omega)
    have e2 : ((t.f4.length : Int) != 1) = true := bne_iff_ne.2 (by have := HW.out.1; omega)
    have e3 : (t.f4.length == 1) = false := beq_eq_false_iff_ne.2 (by have := HW.out.1; omega)
    go_upto_region 9 with (go_at_call 82; refine (close_calls (m + 1 + (Lib.join (t.f4.map (kb (tx n))) sOr).length) HA7.out Hq3.out (HP.out.ru HRU.out 1 rfl)).mono ?_; rintro e w7 ⟨rfl, q4, hq_, hr_, hg_⟩; have n0 := Aside0.mk (HP.out.move 1 rfl hg_ hr_.S); have n1 := Aside0.mk (Kd.F_step HX.out (fun k hk hlt => hg_.block k hlt (fun he => by injection he with he; have := hk.1; have := LG.out; omega))); clear HP HX; have HP := n0; have HX := n1; clear n0 n1; clear hr_ hg_; have Hq4 := Aside0.mk hq_; clear hq_)
    have yr0 : w7.cell? ⟨br, 0, none⟩ = some (.int .i64 0) := (blk_cell (HP.out.get 0 rfl) 0).trans rfl
    have yr1 : w7.cell? ⟨br, 1, none⟩ = some (.int .i64 0) := (blk_cell (HP.out.get 0 rfl) 1).trans rfl
    have yr2 : w7.cell? ⟨br, 2, none⟩ = some (.int .i64 0) := (blk_cell (HP.out.get 0 rfl) 2).trans rfl
    have yr3 : w7.cell? ⟨br, 3, none⟩ = some (.int .i64 0) := (blk_cell (HP.out.get 0 rfl) 3).trans rfl
    have yr4 : w7.cell? ⟨br, 4, none⟩ = some (.slice none 0 0) := (blk_cell (HP.out.get 0 rfl) 4).trans rfl
    have zr0 := blk_frozen (HP.out.get 0 rfl) 0
    have zr1 := blk_frozen (HP.out.get 0 rfl) 1
    have zr2 := blk_frozen (HP.out.get 0 rfl) 2
    have zr3 := blk_frozen (HP.out.get 0 rfl) 3
    have zr4 := blk_frozen (HP.out.get 0 rfl) 4
    go_wp2_with fail
    refine bodyPost_ret (results_cell_row rfl _ _ br 47 #[.int .i64 3, .int .i64 0, .int .i64 0, .int .i64 0, .slice A4 t.f4.length c4] (0, 0) _ rfl ((HP.out.five 0 rfl (.int .i64 3) (.int .i64 0) (.int .i64 0) (.int .i64 0) (.slice A4 t.f4.length c4)).get 0 rfl) Tryd.underlying47 rfl (by kernel_rfl)) rfl ?_
    have ha := (HP.out.five 0 rfl (.int .i64 3) (.int .i64 0) (.int .i64 0) (.int .i64 0) (.slice A4 t.f4.length c4))
    refine ⟨A4, c4, by rw [HZ.out.1, HZ.out.2.1, HZ.out.2.2.1, HZ.out.2.2.2], ⟨Kd.F_mono (Kd.F_step HX.out (fun k hk hlt => five_far (g := br) (by have := hk.2; omega) (.int .i64 3) (.int .i64 0) (.int .i64 0) (.int .i64 0) (.slice A4 t.f4.length c4))) (fun k hk => hk.1), HLC.out⟩, fin_mk (by rw [HT.out, Hq4.out]; simp only [List.length_append, List.length_cons, List.length_nil]; omega) (ha.ru HRU.out 1 rfl) ha.G⟩
  have c4 : t.f0 = 4 := by rcases HOP.out with h | h | h | h; (exact absurd h c1); (exact absurd h HN2.out); (exact absurd h c3); (exact h)
  have hh : 1 ≤ t.f4.length ∧ t.f1 = 0 ∧ t.f2 = 0 ∧ t.f3 = 0 := by rcases HH.out with h | h | h; (omega); (omega); (exact h.2)
  have HZ := Aside0.mk (show t.f0 = 4 ∧ t.f1 = 0 ∧ t.f2 = 0 ∧ t.f3 = 0 from ⟨c4, hh.2⟩)
  have HNE := Aside0.mk (show t.f4 ≠ [] from fun h_ => by have h2_ := hh.1; rw [h_] at h2_; simp at h2_)
  have HT := Aside0.mk (kb_none (n := n) c4)
  have HA1 := Aside0.mk (show At s m ([33, 40] ++ (Lib.join (t.f4.map (kb (tx n))) sOr ++ (41 :: rest))) by have h_ := HA.out; rw [HT.out] at h_; simpa using h_)
  clear hh c1 c3 c4 HA
  have HA2 := Aside0.mk HA1.out.next
  go_upto_region 10 with (go_at_call 17; refine (is_calls ⟨#[40]⟩ m false HA1.out rfl HI.out (HP.out.ru HRU.out 1 rfl)).mono ?_; rintro e w2 ⟨rfl, hr_, hg_⟩; have n0 := Aside0.mk (HP.out.move 1 rfl hg_ hr_.S); clear HP; have HP := n0; clear n0; clear hr_ hg_)
  go_upto_region 11 with (go_at_call 17; refine (is_calls ⟨#[33]⟩ m true HA1.out rfl HI.out (HP.out.ru HRU.out 1 rfl)).mono ?_; rintro e w3 ⟨rfl, hr_, hg_⟩; have n0 := Aside0.mk (HP.out.move 1 rfl hg_ hr_.S); clear HP; have HP := n0; clear n0; clear hr_ hg_)
  go_upto_region 12 with (go_at_call 18; refine (take_calls ⟨#[33, 40]⟩ m (by decide) HA1.out HI.out (HP.out.ru HRU.out 1 rfl)).mono ?_; rintro e w5 ⟨rfl, q5, hq_, hr_, hg_⟩; have n0 := Aside0.mk (HP.out.move 1 rfl hg_ hr_.S); clear HP; have HP := n0; clear n0; clear hr_ hg_; have Hq5 := Aside0.mk hq_; clear hq_)
  have LBK := Aside0.mk (HP.out.lt 0 rfl)
  have LWS := Aside0.mk HP.out.size
  go_upto_region 13 with (go_at_call 33; refine (some_calls true (kb (tx n)) t.f4 HNE.out HLN.out (fun k hk => HAL.out k true (HK.out k hk) (fun _ => rfl)) (m + 2) (41 :: rest) s q5 w0 _ g HA2.out (fun c hc => by simp at hc; exact .inl hc.symm) rfl rfl Hq5.out (HP.out.ru HRU.out 1 rfl)).mono ?_; rintro e w6 ⟨A4, c4, rfl, hx_, hl_, q3, hq_, hr_, hg_⟩; have HX := Aside0.mk hx_; have HLC := Aside0.mk hl_; have Hq3 := Aside0.mk hq_; have n0 := Aside0.mk (HP.out.move 1 rfl hg_ hr_.S); clear HP; have HP := n0; clear n0; clear hx_ hl_ hq_ hr_ hg_)
  have HA7 := Aside0.mk (show At s ((m + 2) + (Lib.join (t.f4.map (kb (tx n))) sOr).length) (41 :: rest) from (HA2.out).next)
  have XB := Aside0.mk (Kd.F_mono (ok' := fun k => w.heap.size ≤ k ∧ br < k) HX.out (fun k hk => ⟨Nat.le_trans LWS.out hk, Nat.lt_of_lt_of_le LBK.out hk⟩))
  clear HX
  have HX := XB
  clear XB
  go_upto_region 14 with (go_at_call 82; refine (close_calls (m + 2 + (Lib.join (t.f4.map (kb (tx n))) sOr).length) HA7.out Hq3.out (HP.out.ru HRU.out 1 rfl)).mono ?_; rintro e w7 ⟨rfl, q4, hq_, hr_, hg_⟩; have n0 := Aside0.mk (HP.out.move 1 rfl hg_ hr_.S); have n1 := Aside0.mk (Kd.F_step HX.out (fun k hk hlt => hg_.block k hlt (fun he => by injection he with he; have := hk.1; have := LG.out; omega))); clear HP HX; have HP := n0; have HX := n1; clear n0 n1; clear hr_ hg_; have Hq4 := Aside0.mk hq_; clear hq_)
  have yr0 : w7.cell? ⟨br, 0, none⟩ = some (.int .i64 0) := (blk_cell (HP.out.get 0 rfl) 0).trans rfl
  have yr1 : w7.cell? ⟨br, 1, none⟩ = some (.int .i64 0) := (blk_cell (HP.out.get 0 rfl) 1).trans rfl
  have yr2 : w7.cell? ⟨br, 2, none⟩ = some (.int .i64 0) := (blk_cell (HP.out.get 0 rfl) 2).trans rfl
  have yr3 : w7.cell? ⟨br, 3, none⟩ = some (.int .i64 0) := (blk_cell (HP.out.get 0 rfl) 3).trans rfl
  have yr4 : w7.cell? ⟨br, 4, none⟩ = some (.slice none 0 0) := (blk_cell (HP.out.get 0 rfl) 4).trans rfl
  have zr0 := blk_frozen (HP.out.get 0 rfl) 0
  have zr1 := blk_frozen (HP.out.get 0 rfl) 1
  have zr2 := blk_frozen (HP.out.get 0 rfl) 2
  have zr3 := blk_frozen (HP.out.get 0 rfl) 3
  have zr4 := blk_frozen (HP.out.get 0 rfl) 4
  go_wp2_with fail
  refine bodyPost_ret (results_cell_row rfl _ _ br 47 #[.int .i64 4, .int .i64 0, .int .i64 0, .int .i64 0, .slice A4 t.f4.length c4] (0, 0) _ rfl ((HP.out.five 0 rfl (.int .i64 4) (.int .i64 0) (.int .i64 0) (.int .i64 0) (.slice A4 t.f4.length c4)).get 0 rfl) Tryd.underlying47 rfl (by kernel_rfl)) rfl ?_
  have ha := (HP.out.five 0 rfl (.int .i64 4) (.int .i64 0) (.int .i64 0) (.int .i64 0) (.slice A4 t.f4.length c4))
  refine ⟨A4, c4, by rw [HZ.out.1, HZ.out.2.1, HZ.out.2.2.1, HZ.out.2.2.2], ⟨Kd.F_mono (Kd.F_step HX.out (fun k hk hlt => five_far (g := br) (by have := hk.2; omega) (.int .i64 4) (.int .i64 0) (.int .i64 0) (.int .i64 0) (.slice A4 t.f4.length c4))) (fun k hk => hk.1), HLC.out⟩, fin_mk (by rw [HT.out, Hq4.out]; simp only [List.length_append, List.length_cons, List.length_nil]; omega) (ha.ru HRU.out 1 rfl) ha.G⟩
theorem sg_calls : ∀ n, SGn n
  | 0 => fun t h => h.elim
  | n + 1 => sg_step n (al_of n (sg_calls n) (fun m e => by subst e; exact sg_calls m))
theorem al_calls (n : Nat) (t : S47) (none_ : Bool) (ht : OkT n t) (hn : t.f0 = 3 → none_ = true) : AlC none_ (kb (tx n)) t := al_of n (sg_calls n) (fun m e => sg_calls m) t none_ ht hn
set_option maxHeartbeats 4000000 in
set_option maxRecDepth 100000 in
theorem form_calls (n : Nat) (t : S47) (ht : OkT (n + 1) t) (m : Nat) (rest : List UInt8) (s : ByteArray) (i : Int) (w0 w : World) (g : Nat) (hA : At s m (tx (n + 1) t ++ rest)) (hf : Fol rest) (hamp : ([32, 38] : List UInt8).isPrefixOf rest = false) (hor : ([32, 124] : List UInt8).isPrefixOf rest = false) (hi : i = (m : Int)) (hr : Ru w0 g s i w) :
    Calls Tryd.prog 16 #[.pointer (some ⟨g, 0, none⟩)] w fun e w' => ∃ A c, e = .returned (.agg #[.int .i64 t.f0, .int .i64 t.f1, .int .i64 t.f2, .int .i64 t.f3, .slice A t.f4.length c]) ∧ RtF w' (fun b => w.heap.size ≤ b) t A c ∧ Fin w0 g s w (m + (tx (n + 1) t).length) w' := by
  have hu47 := Tryd.underlying47
  have hu22 := Tryd.underlying22
  have hu52 := Tryd.underlying52
  have HTT := Aside0.mk ht
  obtain ⟨hkids, ⟨hlen, _⟩, hop⟩ := ht
  have HK := Aside0.mk hkids
  have HLN := Aside0.mk hlen
  have HA := Aside0.mk hA
  have HF := Aside0.mk hf
  have HAM := Aside0.mk hamp
  have HOR := Aside0.mk hor
  have HI := Aside0.mk hi
  have HRU := Aside0.mk hr
  have HP := Aside0.mk (Bg.start hr.S)
  have LG := Aside0.mk (blk_lt hr.S)
  have HH := Aside0.mk hop
  clear hkids hlen hA hf hamp hor hi hr hop
  go_enter Tryd.func16, Tryd.ntmps16
  go_upto_region 1 with ((with_reducible refine gate_dst (N := 2) rfl ?_); refine box_event ?hg (N := 2) ?hd (cs := #[.int .i64 0, .int .i64 0, .int .i64 0, .int .i64 0, .slice none 0 0]) (t := 47) ?hr ?_; (case hd => rfl); (case hg => rfl); (case hr => first | (go_simp; done) | (go_simp; rfl)); intro br hg_ w1 hbox hb; have n0 := Aside0.mk (HP.out.new hg_ hbox hb); clear HP; have HP := n0; clear n0; clear hg_ hbox hb)
  have LBK := Aside0.mk (HP.out.lt 0 rfl)
  have LWS := Aside0.mk HP.out.size
  by_cases c3 : t.f0 = 3
  case pos =>
    have hh : 2 ≤ t.f4.length ∧ t.f1 = 0 ∧ t.f2 = 0 ∧ t.f3 = 0 ∧ ∀ k ∈ t.f4, k.f0 ≠ t.f0 := by rcases HH.out with h | h | h; (omega); (exact h.2); (omega)
    have HW := Aside0.mk hh
    have HC := Aside0.mk c3
    have HZ := Aside0.mk (show t.f0 = 3 ∧ t.f1 = 0 ∧ t.f2 = 0 ∧ t.f3 = 0 from ⟨c3, hh.2.1, hh.2.2.1, hh.2.2.2.1⟩)
    have HNE := Aside0.mk (show t.f4 ≠ [] from fun h_ => by have h2_ := hh.1; rw [h_] at h2_; simp at h2_)
    have HLE := HLN
    have HT := Aside0.mk (show tx (n + 1) t = Lib.join (t.f4.map (kb (tx n))) sOr by rw [tx, if_neg (by omega), if_pos c3])
    have HA1 := Aside0.mk (show At s m (Lib.join (t.f4.map (kb (tx n))) sOr ++ rest) by rw [← HT.out]; exact HA.out)
    clear hh c3 HA
    go_upto_region 2 with (go_at_call 33; refine (some_calls false (kb (tx n)) t.f4 HNE.out HLE.out (fun k hk => al_calls n k false (HK.out k hk) (fun h_ => absurd (h_.trans HC.out.symm) (HW.out.2.2.2.2 k hk))) m rest s i w0 _ g HA1.out HF.out HAM.out HOR.out HI.out (HP.out.ru HRU.out 1 rfl)).mono ?_; rintro e w6 ⟨A4, c4, rfl, hx_, hl_, q3, hq_, hr_, hg_⟩; have HX := Aside0.mk hx_; have HLC := Aside0.mk hl_; have Hq3 := Aside0.mk hq_; have n0 := Aside0.mk (HP.out.move 1 rfl hg_ hr_.S); clear HP; have HP := n0; clear n0; clear hx_ hl_ hq_ hr_ hg_)
    have e1 : ((t.f4.length : Int) == 1) = false := beq_eq_false_iff_ne.2 (by have := HW.out.1; omega)
    have e2 : ((t.f4.length : Int) != 1) = true := bne_iff_ne.2 (by have := HW.out.1; omega)
    have e3 : (t.f4.length == 1) = false := beq_eq_false_iff_ne.2 (by have := HW.out.1; omega)
    have yr0 : w6.cell? ⟨br, 0, none⟩ = some (.int .i64 0) := (blk_cell (HP.out.get 0 rfl) 0).trans rfl
    have yr1 : w6.cell? ⟨br, 1, none⟩ = some (.int .i64 0) := (blk_cell (HP.out.get 0 rfl) 1).trans rfl
    have yr2 : w6.cell? ⟨br, 2, none⟩ = some (.int .i64 0) := (blk_cell (HP.out.get 0 rfl) 2).trans rfl
    have yr3 : w6.cell? ⟨br, 3, none⟩ = some (.int .i64 0) := (blk_cell (HP.out.get 0 rfl) 3).trans rfl
    have yr4 : w6.cell? ⟨br, 4, none⟩ = some (.slice none 0 0) := (blk_cell (HP.out.get 0 rfl) 4).trans rfl
    have zr0 := blk_frozen (HP.out.get 0 rfl) 0
    have zr1 := blk_frozen (HP.out.get 0 rfl) 1
    have zr2 := blk_frozen (HP.out.get 0 rfl) 2
    have zr3 := blk_frozen (HP.out.get 0 rfl) 3
    have zr4 := blk_frozen (HP.out.get 0 rfl) 4
    go_wp2_with fail
    refine bodyPost_ret (results_cell_row rfl _ _ br 47 #[.int .i64 3, .int .i64 0, .int .i64 0, .int .i64 0, .slice A4 t.f4.length c4] (0, 0) _ rfl ((HP.out.five 0 rfl (.int .i64 3) (.int .i64 0) (.int .i64 0) (.int .i64 0) (.slice A4 t.f4.length c4)).get 0 rfl) Tryd.underlying47 rfl (by kernel_rfl)) rfl ?_
    have ha := (HP.out.five 0 rfl (.int .i64 3) (.int .i64 0) (.int .i64 0) (.int .i64 0) (.slice A4 t.f4.length c4))
    exact ⟨A4, c4, by rw [HZ.out.1, HZ.out.2.1, HZ.out.2.2.1, HZ.out.2.2.2], ⟨Kd.F_mono (Kd.F_step HX.out (fun k hk hlt => five_far (g := br) (by have := LBK.out; omega) (.int .i64 3) (.int .i64 0) (.int .i64 0) (.int .i64 0) (.slice A4 t.f4.length c4))) (fun k hk => Nat.le_trans LWS.out hk), HLC.out⟩, fin_mk (by rw [HT.out]; exact Hq3.out) (ha.ru HRU.out 1 rfl) ha.G⟩
  have HC := Aside0.mk c3
  have HJ := Aside0.mk (show Lib.join ([t].map (kb (tx (n + 1)))) sOr = tx (n + 1) t by rw [List.map_cons, List.map_nil, Lib.join_one]; unfold kb; rw [if_neg c3])
  have HNE := Aside0.mk (show [t] ≠ [] by simp)
  have HLE := Aside0.mk (show [t].length ≤ 20 by simp)
  have HA1 := Aside0.mk (show At s m (Lib.join ([t].map (kb (tx (n + 1)))) sOr ++ rest) by rw [HJ.out]; exact HA.out)
  clear c3 HA
  go_upto_region 2 with (go_at_call 33; refine (some_calls false (kb (tx (n + 1))) [t] HNE.out HLE.out (fun k hk => by rw [List.mem_singleton] at hk; subst hk; exact al_calls (n + 1) k false HTT.out (fun h_ => absurd h_ HC.out)) m rest s i w0 _ g HA1.out HF.out HAM.out HOR.out HI.out (HP.out.ru HRU.out 1 rfl)).mono ?_; rintro e w6 ⟨A4, c4, rfl, hx_, hl_, q3, hq_, hr_, hg_⟩; have HX := Aside0.mk hx_; have HLC := Aside0.mk hl_; have Hq3 := Aside0.mk hq_; have n0 := Aside0.mk (HP.out.move 1 rfl hg_ hr_.S); clear HP; have HP := n0; clear n0; clear hx_ hl_ hq_ hr_ hg_)
  obtain ⟨ad, B4, d4, e_, x0, x1, x2, x3, x4, hrd⟩ := at_F47 HX.out 0 (by omega) (by simp)
  cases e_
  have er : rd_T47 [t] 0 = t := rfl
  have ea : ad.add ((0 : Int).toNat * 5) = ad := by cases ad; rfl
  rw [er] at x0 x1 x2 x3 x4 hrd
  rw [ea] at x0 x1 x2 x3 x4
  have RD := Aside0.mk hrd
  clear hrd er ea
  have yr0 : w6.cell? ⟨br, 0, none⟩ = some (.int .i64 0) := (blk_cell (HP.out.get 0 rfl) 0).trans rfl
  have yr1 : w6.cell? ⟨br, 1, none⟩ = some (.int .i64 0) := (blk_cell (HP.out.get 0 rfl) 1).trans rfl
  have yr2 : w6.cell? ⟨br, 2, none⟩ = some (.int .i64 0) := (blk_cell (HP.out.get 0 rfl) 2).trans rfl
  have yr3 : w6.cell? ⟨br, 3, none⟩ = some (.int .i64 0) := (blk_cell (HP.out.get 0 rfl) 3).trans rfl
  have yr4 : w6.cell? ⟨br, 4, none⟩ = some (.slice none 0 0) := (blk_cell (HP.out.get 0 rfl) 4).trans rfl
  have zr0 := blk_frozen (HP.out.get 0 rfl) 0
  have zr1 := blk_frozen (HP.out.get 0 rfl) 1
  have zr2 := blk_frozen (HP.out.get 0 rfl) 2
  have zr3 := blk_frozen (HP.out.get 0 rfl) 3
  have zr4 := blk_frozen (HP.out.get 0 rfl) 4
  go_wp2_with fail
  refine bodyPost_ret (results_cell_row rfl _ _ br 47 #[.int .i64 t.f0, .int .i64 t.f1, .int .i64 t.f2, .int .i64 t.f3, .slice B4 t.f4.length d4] (0, 0) _ rfl ((HP.out.five 0 rfl (.int .i64 t.f0) (.int .i64 t.f1) (.int .i64 t.f2) (.int .i64 t.f3) (.slice B4 t.f4.length d4)).get 0 rfl) Tryd.underlying47 rfl (by kernel_rfl)) rfl ?_
  have ha := (HP.out.five 0 rfl (.int .i64 t.f0) (.int .i64 t.f1) (.int .i64 t.f2) (.int .i64 t.f3) (.slice B4 t.f4.length d4))
  exact ⟨B4, d4, rfl, (RD.out.five (g := br) (fun k hk hlt => by have := LBK.out; omega) (.int .i64 t.f0) (.int .i64 t.f1) (.int .i64 t.f2) (.int .i64 t.f3) (.slice B4 t.f4.length d4)).mono (fun k hk => Nat.le_trans LWS.out hk), fin_mk (by rw [← HJ.out]; exact Hq3.out) (ha.ru HRU.out 1 rfl) ha.G⟩
end Go.Proofs.YtilmjckpphlniaaDoor.PRuleRound
