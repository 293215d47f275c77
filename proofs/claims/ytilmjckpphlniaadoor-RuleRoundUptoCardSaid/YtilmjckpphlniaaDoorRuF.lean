/- For the law RuleRound: within, walked. No condition. -/
import Derived.Test.YtilmjckpphlniaaDoorRuP
namespace Go.Proofs.YtilmjckpphlniaaDoor.PRuleRound
open Go.RowKit Go.Proofs.YtilmjckpphlniaaDoorW.PrintWords Go.Proofs.YtilmjckpphlniaaDoorW.PrintLast Go.Proofs.YtilmjckpphlniaaDoorW.PrintMore
set_option linter.unusedVariables false
set_option linter.unusedSimpArgs false

/-- what may stand behind a test -/
def Fol (r : List UInt8) : Prop := ∀ c ∈ r.head?, c = 41 ∨ c = 32 ∨ c = 59
theorem Fol.nodig {r : List UInt8} (h : Fol r) : NoDig r := fun c hc => by
  rcases h c hc with rfl | rfl | rfl <;> decide
theorem Fol.nodot {r : List UInt8} (h : Fol r) : ([46] : List UInt8).isPrefixOf r = false := by
  cases r with
  | nil => rfl
  | cons c r => rcases h c (by simp) with rfl | rfl | rfl <;> rfl
theorem nodig_cons {c : UInt8} {r : List UInt8} (h : ¬ (48 ≤ c.toNat ∧ c.toNat ≤ 57)) : NoDig (c :: r) := fun d hd => by
  simp at hd; subst hd; exact h
theorem itoa_inj {a b : Int} (ha : 0 ≤ a) (hb : 0 ≤ b) (h : Lib.itoa a = Lib.itoa b) : a = b := by
  have e : ∀ n : Int, 0 ≤ n → Lib.itoa n = Lib.decDigits n.toNat := fun n hn => by unfold Lib.itoa; rw [if_neg (by omega)]
  rw [e a ha, e b hb] at h
  have h1 := dec_val a.toNat
  rw [h, dec_val] at h1
  omega
theorem At.sub {s : ByteArray} {i : Nat} {a b : List UInt8} (h : At s i (a ++ b)) : (s.extract i (i + a.length)).toList = a := by
  rw [Lib.toList_data, ByteArray.data_extract, Array.toList_extract, List.extract_eq_take_drop, h.1, Nat.add_sub_cancel_left, List.take_left]
theorem At.bound {s : ByteArray} {i : Nat} {a : List UInt8} (h : At s i a) : i ≤ 2000 := Nat.le_trans h.2.1 h.2.2
set_option maxHeartbeats 4000000 in
set_option maxRecDepth 100000 in
theorem within_calls (t : S47) (n : Nat) (rest : List UInt8) (s : ByteArray) (i : Int) (w0 w : World) (g : Nat) (h1 : t.f0 = 1) (h4 : t.f4 = []) (hm : t.f1 = 0 ∨ 2 ≤ t.f1 ∧ t.f1 ≤ 1000000) (hlo : 0 ≤ t.f2) (hlh : t.f2 ≤ t.f3) (hhi : t.f3 ≤ 1000000000) (hA : At s n (wt t ++ rest)) (hf : Fol rest) (hi : i = (n : Int)) (hr : Ru w0 g s i w) :
    Calls Tryd.prog 83 #[.pointer (some ⟨g, 0, none⟩)] w fun e w' => e = .returned (.agg #[.int .i64 t.f0, .int .i64 t.f1, .int .i64 t.f2, .int .i64 t.f3, .slice none 0 0]) ∧ ∃ j : Int, j = ((n + (wt t).length : Nat) : Int) ∧ Ru w0 g s j w' ∧ w.grownBy w' (some g) := by
  have hu47 := Tryd.underlying47
  have hu52 := Tryd.underlying52
  obtain ⟨R2, hR2⟩ : ∃ R2, R2 = (if t.f3 = t.f2 then [] else 46 :: 46 :: Lib.itoa t.f3) ++ rest := ⟨_, rfl⟩
  have HR2 := Aside0.mk hR2
  have A0 : At s n ([110] ++ ((if t.f1 = 0 then [] else 37 :: Lib.itoa t.f1) ++ ([61] ++ (Lib.itoa t.f2 ++ R2)))) := by
    rw [hR2]
    unfold wt at hA
    simpa using hA
  have HA0 := Aside0.mk A0
  have HB0 := Aside0.mk A0.bound
  have HI := Aside0.mk hi
  have HRU := Aside0.mk hr
  have HP := Aside0.mk (Bg.start hr.S)
  have HF := Aside0.mk hf
  have LO := Aside0.mk (And.intro hlo (And.intro hlh hhi))
  have MM := Aside0.mk hm
  have H1 := Aside0.mk h1
  have H4 := Aside0.mk h4
  have HLW := Aside0.mk (show (wt t).length = 1 + (if t.f1 = 0 then 0 else 1 + (Lib.itoa t.f1).length) + (1 + (Lib.itoa t.f2).length) + (if t.f3 = t.f2 then 0 else 2 + (Lib.itoa t.f3).length) by unfold wt; split <;> split <;> simp <;> omega)
  clear h1 h4 hm hlo hlh hhi hA hf hi hr A0 hR2
  go_enter Tryd.func83, Tryd.ntmps83
  go_upto_region 2 with (first | ((with_reducible refine gate_dst (N := 2) rfl ?_); refine box_event ?hg (N := 2) ?hd (cs := #[.int .i64 0, .int .i64 0, .int .i64 0, .int .i64 0, .slice none 0 0]) (t := 47) ?hr ?_; (case hd => rfl); (case hg => rfl); (case hr => first | (go_simp; done) | (go_simp; rfl)); intro br hg_ W1 hbox hb; have n0 := Aside0.mk (HP.out.new hg_ hbox hb); clear HP; have HP := n0; clear n0; clear hg_ hbox hb) | ((with_reducible refine gate_dst (N := 3) rfl ?_); refine box_event ?hg (N := 3) ?hd (cs := #[.int .i64 0, .int .i64 0, .int .i64 0, .int .i64 0, .slice none 0 0]) (t := 47) ?hr ?_; (case hd => rfl); (case hg => rfl); (case hr => first | (go_simp; done) | (go_simp; rfl)); intro bt hg_ W2 hbox hb; have n0 := Aside0.mk (HP.out.new hg_ hbox hb); clear HP; have HP := n0; clear n0; clear hg_ hbox hb; have yz0 : W2.cell? ⟨bt, 0, none⟩ = some (.int .i64 0) := (blk_cell (HP.out.get 0 rfl) 0).trans rfl; have yz1 : W2.cell? ⟨bt, 1, none⟩ = some (.int .i64 0) := (blk_cell (HP.out.get 0 rfl) 1).trans rfl; have yz2 : W2.cell? ⟨bt, 2, none⟩ = some (.int .i64 0) := (blk_cell (HP.out.get 0 rfl) 2).trans rfl; have yz3 : W2.cell? ⟨bt, 3, none⟩ = some (.int .i64 0) := (blk_cell (HP.out.get 0 rfl) 3).trans rfl; have yz4 : W2.cell? ⟨bt, 4, none⟩ = some (.slice none 0 0) := (blk_cell (HP.out.get 0 rfl) 4).trans rfl; have zz0 := blk_frozen (HP.out.get 0 rfl) 0; have zz1 := blk_frozen (HP.out.get 0 rfl) 1; have zz2 := blk_frozen (HP.out.get 0 rfl) 2; have zz3 := blk_frozen (HP.out.get 0 rfl) 3; have zz4 := blk_frozen (HP.out.get 0 rfl) 4))
  have n0 := Aside0.mk (HP.out.five 0 rfl (.int .i64 1) (.int .i64 0) (.int .i64 0) (.int .i64 0) (.slice none 0 0))
  clear HP
  have HP := n0
  clear n0
  clear yz0 zz0 yz1 zz1 yz2 zz2 yz3 zz3 yz4 zz4
  generalize (((((W2.setCell ⟨bt, 0, none⟩ (.int .i64 1)).setCell ⟨bt, 1, none⟩ (.int .i64 0)).setCell ⟨bt, 2, none⟩ (.int .i64 0)).setCell ⟨bt, 3, none⟩ (.int .i64 0)).setCell ⟨bt, 4, none⟩ (.slice none 0 0)) = W3 at HP ⊢
  have HQ0 : Aside0 (i = (n : Int)) := HI
  have A1 := Aside0.mk HA0.out.next
  go_upto_region 3 with (go_at_call 18; (with_reducible refine (take_calls ⟨#[110]⟩ n (by decide) HA0.out HI.out (HP.out.ru HRU.out 2 rfl)).mono ?_); rintro e W4 ⟨rfl, q1, hq1, hr_, hg_⟩; have n0 := Aside0.mk (HP.out.move 2 rfl hg_ hr_.S); clear HP; have HP := n0; clear n0; clear hr_ hg_; have Hq1 := Aside0.mk hq1; clear hq1)
  have P1 : Aside0 (q1 = ((n + 1 : Nat) : Int)) := Hq1
  obtain ⟨n1, hn1⟩ : ∃ n1, n1 = n + 1 := ⟨_, rfl⟩
  have N1 := Aside0.mk hn1
  replace P1 : Aside0 (q1 = (n1 : Int)) := ⟨by rw [hn1]; exact P1.out⟩
  have B1 : Aside0 (At s n1 ((if t.f1 = 0 then [] else 37 :: Lib.itoa t.f1) ++ ([61] ++ (Lib.itoa t.f2 ++ R2)))) := ⟨by rw [hn1]; exact A1.out⟩
  clear hn1 A1 Hq1
  by_cases c1 : t.f1 = 0
  case pos =>
    have M0 := Aside0.mk c1
    have D1 : Aside0 (At s n1 ([61] ++ (Lib.itoa t.f2 ++ R2))) := ⟨by have h_ := B1.out; rw [if_pos c1] at h_; exact h_⟩
    clear c1
    go_upto_region 8 with (go_at_call 17; (with_reducible refine (is_calls ⟨#[37]⟩ n1 false D1.out rfl P1.out (HP.out.ru HRU.out 2 rfl)).mono ?_); rintro e W5 ⟨rfl, hr_, hg_⟩; have n0 := Aside0.mk (HP.out.move 2 rfl hg_ hr_.S); clear HP; have HP := n0; clear n0; clear hr_ hg_)
    go_upto_region 9 with (go_at_call 18; (with_reducible refine (take_calls ⟨#[61]⟩ n1 (by decide) D1.out P1.out (HP.out.ru HRU.out 2 rfl)).mono ?_); rintro e W6 ⟨rfl, q5, hq5, hr_, hg_⟩; have n0 := Aside0.mk (HP.out.move 2 rfl hg_ hr_.S); clear HP; have HP := n0; clear n0; clear hr_ hg_; have Hq5 := Aside0.mk hq5; clear hq5)
    obtain ⟨n5, hn5⟩ : ∃ x, x = n1 + 1 := ⟨_, rfl⟩
    have Nn5 := Aside0.mk hn5
    have Pq5 : Aside0 (q5 = (n5 : Int)) := ⟨by rw [hn5]; exact Hq5.out⟩
    have Bn5 : Aside0 (At s n5 (Lib.itoa t.f2 ++ R2)) := ⟨by rw [hn5]; exact D1.out.next⟩
    clear hn5 Hq5
    have yg1 : W6.cell? ⟨g, 1, none⟩ = some (.int .i64 q5) := (blk_cell (HP.out.get 2 rfl) 1).trans rfl
    have yg3 : W6.cell? ⟨g, 3, none⟩ = some (.bool false) := (blk_cell (HP.out.get 2 rfl) 3).trans rfl
    have ND := Aside0.mk (show NoDig R2 by rw [HR2.out]; split; (rw [List.nil_append]; exact HF.out.nodig); (exact nodig_cons (by decide)))
    go_upto_region 13 with (go_at_call 92; (with_reducible refine (number_calls n5 t.f2 (by have := LO.out; omega) (by have := LO.out; omega) Bn5.out ND.out Pq5.out (HP.out.ru HRU.out 2 rfl)).mono ?_); rintro e W7 ⟨rfl, q6, hq6, hr_, hg_⟩; have n0 := Aside0.mk (HP.out.move 2 rfl hg_ hr_.S); clear HP; have HP := n0; clear n0; clear hr_ hg_; have Hq6 := Aside0.mk hq6; clear hq6; have yc2 : W7.cell? ⟨bt, 2, none⟩ = some (.int .i64 0) := (blk_cell (HP.out.get 0 rfl) 2).trans rfl; have zc2 := blk_frozen (HP.out.get 0 rfl) 2)
    obtain ⟨n6, hn6⟩ : ∃ x, x = n5 + (Lib.itoa t.f2).length := ⟨_, rfl⟩
    have Nn6 := Aside0.mk hn6
    have Pq6 : Aside0 (q6 = (n6 : Int)) := ⟨by rw [hn6]; exact Hq6.out⟩
    have Bn6 : Aside0 (At s n6 (R2)) := ⟨by rw [hn6]; exact Bn5.out.next⟩
    clear hn6 Hq6
    have n0 := Aside0.mk ((HP.out.put' 0 rfl 2 (.int .i64 t.f2) rfl).1)
    clear HP
    have HP := n0
    clear n0
    clear yg1 yg3 yc2 zc2
    generalize (W7.setCell ⟨bt, 2, none⟩ (.int .i64 t.f2)) = W8 at HP ⊢
    have yd2 : W8.cell? ⟨bt, 2, none⟩ = some (.int .i64 t.f2) := (blk_cell (HP.out.get 0 rfl) 2).trans rfl
    have yd3 : W8.cell? ⟨bt, 3, none⟩ = some (.int .i64 0) := (blk_cell (HP.out.get 0 rfl) 3).trans rfl
    have zd3 := blk_frozen (HP.out.get 0 rfl) 3
    go_upto_region 14 with (fail)
    have n0 := Aside0.mk ((HP.out.put' 0 rfl 3 (.int .i64 t.f2) rfl).1)
    clear HP
    have HP := n0
    clear n0
    clear yd2 yd3 zd3
    generalize (W8.setCell ⟨bt, 3, none⟩ (.int .i64 t.f2)) = W9 at HP ⊢
    have yg0 : W9.cell? ⟨g, 0, none⟩ = some (.string s) := (blk_cell (HP.out.get 2 rfl) 0).trans rfl
    have yg1 : W9.cell? ⟨g, 1, none⟩ = some (.int .i64 q6) := (blk_cell (HP.out.get 2 rfl) 1).trans rfl
    have b0 : 0 ≤ q5 := by have := Pq5.out; omega
    have b1 : q5 ≤ q6 := by have := Pq5.out; have := Pq6.out; have := Nn6.out; omega
    have b2 : q6 ≤ (s.size : Int) := by have h1_ := Bn6.out.2.1; have := Pq6.out; omega
    have b3 : 0 ≤ q6 := by omega
    have b4 : q5 ≤ (s.size : Int) := by omega
    have HSUB := Aside0.mk (show (s.extract q5.toNat q6.toNat).toList = Lib.itoa t.f2 by rw [show q5.toNat = n5 by have := Pq5.out; omega, show q6.toNat = n5 + (Lib.itoa t.f2).length by have := Pq6.out; have := Nn6.out; omega]; exact Bn5.out.sub)
    go_quiet (fail)
    have n0 := Aside0.mk (HP.out.below (pw_below_drewN (Below.refl _ W9) nq))
    clear HP
    have HP := n0
    clear n0
    clear yg0 yg1
    generalize W9.drewN nq = W10 at HP ⊢
    clear b0 b1 b2 b3 b4
    generalize s.extract q5.toNat q6.toNat = low at HSUB ⊢
    by_cases c3 : t.f3 = t.f2
    case pos =>
      have HR3 := Aside0.mk (show R2 = rest by rw [HR2.out, if_pos c3]; rfl)
      have C3 := Aside0.mk c3
      clear c3
      go_upto_region 16 with (go_at_call 17; (with_reducible refine (is_calls ⟨#[46]⟩ n6 false Bn6.out (by rw [HR3.out]; exact HF.out.nodot) Pq6.out (HP.out.ru HRU.out 2 rfl)).mono ?_); rintro e W11 ⟨rfl, hr_, hg_⟩; have n0 := Aside0.mk (HP.out.move 2 rfl hg_ hr_.S); clear HP; have HP := n0; clear n0; clear hr_ hg_)
      have yt0 : W11.cell? ⟨bt, 0, none⟩ = some (.int .i64 1) := (blk_cell (HP.out.get 0 rfl) 0).trans rfl
      have yt1 : W11.cell? ⟨bt, 1, none⟩ = some (.int .i64 0) := (blk_cell (HP.out.get 0 rfl) 1).trans rfl
      have yt2 : W11.cell? ⟨bt, 2, none⟩ = some (.int .i64 t.f2) := (blk_cell (HP.out.get 0 rfl) 2).trans rfl
      have yt3 : W11.cell? ⟨bt, 3, none⟩ = some (.int .i64 t.f2) := (blk_cell (HP.out.get 0 rfl) 3).trans rfl
      have yt4 : W11.cell? ⟨bt, 4, none⟩ = some (.slice none 0 0) := (blk_cell (HP.out.get 0 rfl) 4).trans rfl
      have yr0 : W11.cell? ⟨br, 0, none⟩ = some (.int .i64 0) := (blk_cell (HP.out.get 1 rfl) 0).trans rfl
      have yr1 : W11.cell? ⟨br, 1, none⟩ = some (.int .i64 0) := (blk_cell (HP.out.get 1 rfl) 1).trans rfl
      have yr2 : W11.cell? ⟨br, 2, none⟩ = some (.int .i64 0) := (blk_cell (HP.out.get 1 rfl) 2).trans rfl
      have yr3 : W11.cell? ⟨br, 3, none⟩ = some (.int .i64 0) := (blk_cell (HP.out.get 1 rfl) 3).trans rfl
      have yr4 : W11.cell? ⟨br, 4, none⟩ = some (.slice none 0 0) := (blk_cell (HP.out.get 1 rfl) 4).trans rfl
      have zr0 := blk_frozen (HP.out.get 1 rfl) 0
      have zr1 := blk_frozen (HP.out.get 1 rfl) 1
      have zr2 := blk_frozen (HP.out.get 1 rfl) 2
      have zr3 := blk_frozen (HP.out.get 1 rfl) 3
      have zr4 := blk_frozen (HP.out.get 1 rfl) 4
      go_wp2_with fail
      refine bodyPost_ret (results_cell_row rfl _ _ br 47 #[.int .i64 1, .int .i64 0, .int .i64 t.f2, .int .i64 t.f2, .slice none 0 0] (0, 0) _ rfl ((HP.out.five 1 rfl (.int .i64 1) (.int .i64 0) (.int .i64 t.f2) (.int .i64 t.f2) (.slice none 0 0)).get 1 rfl) Tryd.underlying47 rfl (by kernel_rfl)) rfl ?_
      have hh := (HP.out.five 1 rfl (.int .i64 1) (.int .i64 0) (.int .i64 t.f2) (.int .i64 t.f2) (.slice none 0 0)).tail.tail
      have ha := (HP.out.five 1 rfl (.int .i64 1) (.int .i64 0) (.int .i64 t.f2) (.int .i64 t.f2) (.slice none 0 0))
      refine ⟨?_, q6, ?_, ha.ru HRU.out 2 rfl, ha.G⟩
      · rw [H1.out, C3.out]; try (first | rfl | (rw [M0.out]))
      · have := Pq6.out; rw [HLW.out]; first | rw [if_pos M0.out] | rw [if_neg M0.out]
        first | rw [if_pos C3.out] | rw [if_neg C3.out]
        have h1_ := N1.out; have h2_ := Nn5.out; have h3_ := Nn6.out; omega
    have HR3 := Aside0.mk (show R2 = [46, 46] ++ (Lib.itoa t.f3 ++ rest) by rw [HR2.out, if_neg c3]; rfl)
    have C3 := Aside0.mk c3
    clear c3
    have B6 : Aside0 (At s n6 ([46, 46] ++ (Lib.itoa t.f3 ++ rest))) := ⟨by rw [← HR3.out]; exact Bn6.out⟩
    go_upto_region 17 with (go_at_call 17; (with_reducible refine (is_calls ⟨#[46]⟩ n6 true B6.out rfl Pq6.out (HP.out.ru HRU.out 2 rfl)).mono ?_); rintro e W12 ⟨rfl, hr_, hg_⟩; have n0 := Aside0.mk (HP.out.move 2 rfl hg_ hr_.S); clear HP; have HP := n0; clear n0; clear hr_ hg_)
    go_upto_region 18 with (go_at_call 18; (with_reducible refine (take_calls ⟨#[46, 46]⟩ n6 (by decide) B6.out Pq6.out (HP.out.ru HRU.out 2 rfl)).mono ?_); rintro e W13 ⟨rfl, q7, hq7, hr_, hg_⟩; have n0 := Aside0.mk (HP.out.move 2 rfl hg_ hr_.S); clear HP; have HP := n0; clear n0; clear hr_ hg_; have Hq7 := Aside0.mk hq7; clear hq7)
    obtain ⟨n7, hn7⟩ : ∃ x, x = n6 + 2 := ⟨_, rfl⟩
    have Nn7 := Aside0.mk hn7
    have Pq7 : Aside0 (q7 = (n7 : Int)) := ⟨by rw [hn7]; exact Hq7.out⟩
    have Bn7 : Aside0 (At s n7 (Lib.itoa t.f3 ++ rest)) := ⟨by rw [hn7]; exact B6.out.next⟩
    clear hn7 Hq7
    have yg1 : W13.cell? ⟨g, 1, none⟩ = some (.int .i64 q7) := (blk_cell (HP.out.get 2 rfl) 1).trans rfl
    have yg3 : W13.cell? ⟨g, 3, none⟩ = some (.bool false) := (blk_cell (HP.out.get 2 rfl) 3).trans rfl
    go_upto_region 22 with (go_at_call 92; (with_reducible refine (number_calls n7 t.f3 (by have := LO.out; omega) (by have := LO.out; omega) Bn7.out HF.out.nodig Pq7.out (HP.out.ru HRU.out 2 rfl)).mono ?_); rintro e W14 ⟨rfl, q8, hq8, hr_, hg_⟩; have n0 := Aside0.mk (HP.out.move 2 rfl hg_ hr_.S); clear HP; have HP := n0; clear n0; clear hr_ hg_; have Hq8 := Aside0.mk hq8; clear hq8; have yc3 : W14.cell? ⟨bt, 3, none⟩ = some (.int .i64 t.f2) := (blk_cell (HP.out.get 0 rfl) 3).trans rfl; have zc3 := blk_frozen (HP.out.get 0 rfl) 3)
    obtain ⟨n8, hn8⟩ : ∃ x, x = n7 + (Lib.itoa t.f3).length := ⟨_, rfl⟩
    have Nn8 := Aside0.mk hn8
    have Pq8 : Aside0 (q8 = (n8 : Int)) := ⟨by rw [hn8]; exact Hq8.out⟩
    have Bn8 : Aside0 (At s n8 (rest)) := ⟨by rw [hn8]; exact Bn7.out.next⟩
    clear hn8 Hq8
    have n0 := Aside0.mk ((HP.out.put' 0 rfl 3 (.int .i64 t.f3) rfl).1)
    clear HP
    have HP := n0
    clear n0
    clear yg1 yg3 yc3 zc3
    generalize (W14.setCell ⟨bt, 3, none⟩ (.int .i64 t.f3)) = W15 at HP ⊢
    have yg0 : W15.cell? ⟨g, 0, none⟩ = some (.string s) := (blk_cell (HP.out.get 2 rfl) 0).trans rfl
    have yg1 : W15.cell? ⟨g, 1, none⟩ = some (.int .i64 q8) := (blk_cell (HP.out.get 2 rfl) 1).trans rfl
    have yg3 : W15.cell? ⟨g, 3, none⟩ = some (.bool false) := (blk_cell (HP.out.get 2 rfl) 3).trans rfl
    have b0 : 0 ≤ q7 := by have := Pq7.out; omega
    have b1 : q7 ≤ q8 := by have := Pq7.out; have := Pq8.out; have := Nn8.out; omega
    have b2 : q8 ≤ (s.size : Int) := by have h1_ := Bn8.out.2.1; have := Pq8.out; omega
    have b3 : 0 ≤ q8 := by omega
    have b4 : q7 ≤ (s.size : Int) := by omega
    have HS2 := Aside0.mk (show (s.extract q7.toNat q8.toNat).toList = Lib.itoa t.f3 by rw [show q7.toNat = n7 by have := Pq7.out; omega, show q8.toNat = n7 + (Lib.itoa t.f3).length by have := Pq8.out; have := Nn8.out; omega]; exact Bn7.out.sub)
    have u1 : ((s.extract q7.toNat q8.toNat).toList == low.toList) = false := beq_eq_false_iff_ne.2 (by rw [HS2.out, HSUB.out]; exact fun h_ => C3.out (itoa_inj (by have := LO.out; omega) (by have := LO.out; omega) h_))
    have u2 : ((s.extract q7.toNat q8.toNat).toList != low.toList) = true := bne_iff_ne.2 (beq_eq_false_iff_ne.1 u1)
    go_quiet (fail)
    have n0 := Aside0.mk (HP.out.below (pw_below_drewN (Below.refl _ W15) nq))
    clear HP
    have HP := n0
    clear n0
    clear yg0 yg1 yg3
    generalize W15.drewN nq = W16 at HP ⊢
    clear b0 b1 b2 b3 b4
    have yt0 : W16.cell? ⟨bt, 0, none⟩ = some (.int .i64 1) := (blk_cell (HP.out.get 0 rfl) 0).trans rfl
    have yt1 : W16.cell? ⟨bt, 1, none⟩ = some (.int .i64 0) := (blk_cell (HP.out.get 0 rfl) 1).trans rfl
    have yt2 : W16.cell? ⟨bt, 2, none⟩ = some (.int .i64 t.f2) := (blk_cell (HP.out.get 0 rfl) 2).trans rfl
    have yt3 : W16.cell? ⟨bt, 3, none⟩ = some (.int .i64 t.f3) := (blk_cell (HP.out.get 0 rfl) 3).trans rfl
    have yt4 : W16.cell? ⟨bt, 4, none⟩ = some (.slice none 0 0) := (blk_cell (HP.out.get 0 rfl) 4).trans rfl
    have yr0 : W16.cell? ⟨br, 0, none⟩ = some (.int .i64 0) := (blk_cell (HP.out.get 1 rfl) 0).trans rfl
    have yr1 : W16.cell? ⟨br, 1, none⟩ = some (.int .i64 0) := (blk_cell (HP.out.get 1 rfl) 1).trans rfl
    have yr2 : W16.cell? ⟨br, 2, none⟩ = some (.int .i64 0) := (blk_cell (HP.out.get 1 rfl) 2).trans rfl
    have yr3 : W16.cell? ⟨br, 3, none⟩ = some (.int .i64 0) := (blk_cell (HP.out.get 1 rfl) 3).trans rfl
    have yr4 : W16.cell? ⟨br, 4, none⟩ = some (.slice none 0 0) := (blk_cell (HP.out.get 1 rfl) 4).trans rfl
    have zr0 := blk_frozen (HP.out.get 1 rfl) 0
    have zr1 := blk_frozen (HP.out.get 1 rfl) 1
    have zr2 := blk_frozen (HP.out.get 1 rfl) 2
    have zr3 := blk_frozen (HP.out.get 1 rfl) 3
    have zr4 := blk_frozen (HP.out.get 1 rfl) 4
    go_wp2_with fail
    refine bodyPost_ret (results_cell_row rfl _ _ br 47 #[.int .i64 1, .int .i64 0, .int .i64 t.f2, .int .i64 t.f3, .slice none 0 0] (0, 0) _ rfl ((HP.out.five 1 rfl (.int .i64 1) (.int .i64 0) (.int .i64 t.f2) (.int .i64 t.f3) (.slice none 0 0)).get 1 rfl) Tryd.underlying47 rfl (by kernel_rfl)) rfl ?_
    have hh := (HP.out.five 1 rfl (.int .i64 1) (.int .i64 0) (.int .i64 t.f2) (.int .i64 t.f3) (.slice none 0 0)).tail.tail
    have ha := (HP.out.five 1 rfl (.int .i64 1) (.int .i64 0) (.int .i64 t.f2) (.int .i64 t.f3) (.slice none 0 0))
    refine ⟨?_, q8, ?_, ha.ru HRU.out 2 rfl, ha.G⟩
    · rw [H1.out]; try (first | rfl | (rw [M0.out]))
    · have := Pq8.out; rw [HLW.out]; first | rw [if_pos M0.out] | rw [if_neg M0.out]
      first | rw [if_pos C3.out] | rw [if_neg C3.out]
      have h1_ := N1.out; have h2_ := Nn5.out; have h3_ := Nn6.out; have h4_ := Nn7.out; have h5_ := Nn8.out; omega
  have M0 := Aside0.mk c1
  have D1 : Aside0 (At s n1 ([37] ++ (Lib.itoa t.f1 ++ ([61] ++ (Lib.itoa t.f2 ++ R2))))) := ⟨by have h_ := B1.out; rw [if_neg c1] at h_; simpa using h_⟩
  have M1 : Aside0 (2 ≤ t.f1 ∧ t.f1 ≤ 1000000) := ⟨MM.out.elim (fun h_ => absurd h_ c1) (fun h_ => h_)⟩
  have m1a : (t.f1 == 0) = false := beq_eq_false_iff_ne.2 c1
  have m1b : (t.f1 != 0) = true := bne_iff_ne.2 c1
  clear c1
  go_upto_region 4 with (go_at_call 17; (with_reducible refine (is_calls ⟨#[37]⟩ n1 true D1.out rfl P1.out (HP.out.ru HRU.out 2 rfl)).mono ?_); rintro e W17 ⟨rfl, hr_, hg_⟩; have n0 := Aside0.mk (HP.out.move 2 rfl hg_ hr_.S); clear HP; have HP := n0; clear n0; clear hr_ hg_)
  have b0 : 0 ≤ q1 := by have := P1.out; omega
  have b1 : q1 ≤ 2000 := by have h1_ := P1.out; have h2_ := D1.out.bound; omega
  have b2 : Aside0 (0 ≤ q1 ∧ q1 ≤ 2000) := ⟨b0, b1⟩
  have yg1 : W17.cell? ⟨g, 1, none⟩ = some (.int .i64 q1) := (blk_cell (HP.out.get 2 rfl) 1).trans rfl
  have zg1 := blk_frozen (HP.out.get 2 rfl) 1
  go_upto_region 5 with (fail)
  have n0 := Aside0.mk ((HP.out.put' 2 rfl 1 (.int .i64 (q1 + 1)) rfl).1)
  clear HP
  have HP := n0
  clear n0
  clear yg1 zg1 b0 b1
  generalize (W17.setCell ⟨g, 1, none⟩ (.int .i64 (q1 + 1))) = W18 at HP ⊢
  obtain ⟨q2, hq2⟩ : ∃ x, x = q1 + 1 := ⟨_, rfl⟩
  rw [← hq2] at HP
  have Hq2 : Aside0 (q2 = ((n1 + 1 : Nat) : Int)) := ⟨by have := P1.out; omega⟩
  clear hq2
  obtain ⟨n2, hn2⟩ : ∃ x, x = n1 + 1 := ⟨_, rfl⟩
  have Nn2 := Aside0.mk hn2
  have Pq2 : Aside0 (q2 = (n2 : Int)) := ⟨by rw [hn2]; exact Hq2.out⟩
  have Bn2 : Aside0 (At s n2 (Lib.itoa t.f1 ++ ([61] ++ (Lib.itoa t.f2 ++ R2)))) := ⟨by rw [hn2]; exact D1.out.next⟩
  clear hn2 Hq2
  have ND1 : Aside0 (NoDig ([61] ++ (Lib.itoa t.f2 ++ R2))) := ⟨nodig_cons (by decide)⟩
  go_upto_region 6 with (go_at_call 92; (with_reducible refine (number_calls n2 t.f1 (by have := M1.out; omega) (by have := M1.out; omega) Bn2.out ND1.out Pq2.out (HP.out.ru HRU.out 2 rfl)).mono ?_); rintro e W19 ⟨rfl, q3, hq3, hr_, hg_⟩; have n0 := Aside0.mk (HP.out.move 2 rfl hg_ hr_.S); clear HP; have HP := n0; clear n0; clear hr_ hg_; have Hq3 := Aside0.mk hq3; clear hq3; have yc1 : W19.cell? ⟨bt, 1, none⟩ = some (.int .i64 0) := (blk_cell (HP.out.get 0 rfl) 1).trans rfl; have zc1 := blk_frozen (HP.out.get 0 rfl) 1)
  obtain ⟨n3, hn3⟩ : ∃ x, x = n2 + (Lib.itoa t.f1).length := ⟨_, rfl⟩
  have Nn3 := Aside0.mk hn3
  have Pq3 : Aside0 (q3 = (n3 : Int)) := ⟨by rw [hn3]; exact Hq3.out⟩
  have Bn3 : Aside0 (At s n3 ([61] ++ (Lib.itoa t.f2 ++ R2))) := ⟨by rw [hn3]; exact Bn2.out.next⟩
  clear hn3 Hq3
  have n0 := Aside0.mk ((HP.out.put' 0 rfl 1 (.int .i64 t.f1) rfl).1)
  clear HP
  have HP := n0
  clear n0
  clear yc1 zc1
  generalize (W19.setCell ⟨bt, 1, none⟩ (.int .i64 t.f1)) = W20 at HP ⊢
  have ym1 : W20.cell? ⟨bt, 1, none⟩ = some (.int .i64 t.f1) := (blk_cell (HP.out.get 0 rfl) 1).trans rfl
  go_upto_region 8 with (fail)
  clear ym1 m1a m1b
  go_upto_region 9 with (go_at_call 18; (with_reducible refine (take_calls ⟨#[61]⟩ n3 (by decide) Bn3.out Pq3.out (HP.out.ru HRU.out 2 rfl)).mono ?_); rintro e W21 ⟨rfl, q5, hq5, hr_, hg_⟩; have n0 := Aside0.mk (HP.out.move 2 rfl hg_ hr_.S); clear HP; have HP := n0; clear n0; clear hr_ hg_; have Hq5 := Aside0.mk hq5; clear hq5)
  obtain ⟨n5, hn5⟩ : ∃ x, x = n3 + 1 := ⟨_, rfl⟩
  have Nn5 := Aside0.mk hn5
  have Pq5 : Aside0 (q5 = (n5 : Int)) := ⟨by rw [hn5]; exact Hq5.out⟩
  have Bn5 : Aside0 (At s n5 (Lib.itoa t.f2 ++ R2)) := ⟨by rw [hn5]; exact Bn3.out.next⟩
  clear hn5 Hq5
  have yg1 : W21.cell? ⟨g, 1, none⟩ = some (.int .i64 q5) := (blk_cell (HP.out.get 2 rfl) 1).trans rfl
  have yg3 : W21.cell? ⟨g, 3, none⟩ = some (.bool false) := (blk_cell (HP.out.get 2 rfl) 3).trans rfl
  have ND := Aside0.mk (show NoDig R2 by rw [HR2.out]; split; (rw [List.nil_append]; exact HF.out.nodig); (exact nodig_cons (by decide)))
  go_upto_region 13 with (go_at_call 92; (with_reducible refine (number_calls n5 t.f2 (by have := LO.out; omega) (by have := LO.out; omega) Bn5.out ND.out Pq5.out (HP.out.ru HRU.out 2 rfl)).mono ?_); rintro e W22 ⟨rfl, q6, hq6, hr_, hg_⟩; have n0 := Aside0.mk (HP.out.move 2 rfl hg_ hr_.S); clear HP; have HP := n0; clear n0; clear hr_ hg_; have Hq6 := Aside0.mk hq6; clear hq6; have yc2 : W22.cell? ⟨bt, 2, none⟩ = some (.int .i64 0) := (blk_cell (HP.out.get 0 rfl) 2).trans rfl; have zc2 := blk_frozen (HP.out.get 0 rfl) 2)
  obtain ⟨n6, hn6⟩ : ∃ x, x = n5 + (Lib.itoa t.f2).length := ⟨_, rfl⟩
  have Nn6 := Aside0.mk hn6
  have Pq6 : Aside0 (q6 = (n6 : Int)) := ⟨by rw [hn6]; exact Hq6.out⟩
  have Bn6 : Aside0 (At s n6 (R2)) := ⟨by rw [hn6]; exact Bn5.out.next⟩
  clear hn6 Hq6
  have n0 := Aside0.mk ((HP.out.put' 0 rfl 2 (.int .i64 t.f2) rfl).1)
  clear HP
  have HP := n0
  clear n0
  clear yg1 yg3 yc2 zc2
  generalize (W22.setCell ⟨bt, 2, none⟩ (.int .i64 t.f2)) = W23 at HP ⊢
  have yd2 : W23.cell? ⟨bt, 2, none⟩ = some (.int .i64 t.f2) := (blk_cell (HP.out.get 0 rfl) 2).trans rfl
  have yd3 : W23.cell? ⟨bt, 3, none⟩ = some (.int .i64 0) := (blk_cell (HP.out.get 0 rfl) 3).trans rfl
  have zd3 := blk_frozen (HP.out.get 0 rfl) 3
  go_upto_region 14 with (fail)
  have n0 := Aside0.mk ((HP.out.put' 0 rfl 3 (.int .i64 t.f2) rfl).1)
  clear HP
  have HP := n0
  clear n0
  clear yd2 yd3 zd3
  generalize (W23.setCell ⟨bt, 3, none⟩ (.int .i64 t.f2)) = W24 at HP ⊢
  have yg0 : W24.cell? ⟨g, 0, none⟩ = some (.string s) := (blk_cell (HP.out.get 2 rfl) 0).trans rfl
  have yg1 : W24.cell? ⟨g, 1, none⟩ = some (.int .i64 q6) := (blk_cell (HP.out.get 2 rfl) 1).trans rfl
  have b0 : 0 ≤ q5 := by have := Pq5.out; omega
  have b1 : q5 ≤ q6 := by have := Pq5.out; have := Pq6.out; have := Nn6.out; omega
  have b2 : q6 ≤ (s.size : Int) := by have h1_ := Bn6.out.2.1; have := Pq6.out; omega
  have b3 : 0 ≤ q6 := by omega
  have b4 : q5 ≤ (s.size : Int) := by omega
  have HSUB := Aside0.mk (show (s.extract q5.toNat q6.toNat).toList = Lib.itoa t.f2 by rw [show q5.toNat = n5 by have := Pq5.out; omega, show q6.toNat = n5 + (Lib.itoa t.f2).length by have := Pq6.out; have := Nn6.out; omega]; exact Bn5.out.sub)
  go_quiet (fail)
  have n0 := Aside0.mk (HP.out.below (pw_below_drewN (Below.refl _ W24) nq))
  clear HP
  have HP := n0
  clear n0
  clear yg0 yg1
  generalize W24.drewN nq = W25 at HP ⊢
  clear b0 b1 b2 b3 b4
  generalize s.extract q5.toNat q6.toNat = low at HSUB ⊢
  by_cases c3 : t.f3 = t.f2
  case pos =>
    have HR3 := Aside0.mk (show R2 = rest by rw [HR2.out, if_pos c3]; rfl)
    have C3 := Aside0.mk c3
    clear c3
    go_upto_region 16 with (go_at_call 17; (with_reducible refine (is_calls ⟨#[46]⟩ n6 false Bn6.out (by rw [HR3.out]; exact HF.out.nodot) Pq6.out (HP.out.ru HRU.out 2 rfl)).mono ?_); rintro e W26 ⟨rfl, hr_, hg_⟩; have n0 := Aside0.mk (HP.out.move 2 rfl hg_ hr_.S); clear HP; have HP := n0; clear n0; clear hr_ hg_)
    have yt0 : W26.cell? ⟨bt, 0, none⟩ = some (.int .i64 1) := (blk_cell (HP.out.get 0 rfl) 0).trans rfl
    have yt1 : W26.cell? ⟨bt, 1, none⟩ = some (.int .i64 t.f1) := (blk_cell (HP.out.get 0 rfl) 1).trans rfl
    have yt2 : W26.cell? ⟨bt, 2, none⟩ = some (.int .i64 t.f2) := (blk_cell (HP.out.get 0 rfl) 2).trans rfl
    have yt3 : W26.cell? ⟨bt, 3, none⟩ = some (.int .i64 t.f2) := (blk_cell (HP.out.get 0 rfl) 3).trans rfl
    have yt4 : W26.cell? ⟨bt, 4, none⟩ = some (.slice none 0 0) := (blk_cell (HP.out.get 0 rfl) 4).trans rfl
    have yr0 : W26.cell? ⟨br, 0, none⟩ = some (.int .i64 0) := (blk_cell (HP.out.get 1 rfl) 0).trans rfl
    have yr1 : W26.cell? ⟨br, 1, none⟩ = some (.int .i64 0) := (blk_cell (HP.out.get 1 rfl) 1).trans rfl
    have yr2 : W26.cell? ⟨br, 2, none⟩ = some (.int .i64 0) := (blk_cell (HP.out.get 1 rfl) 2).trans rfl
    have yr3 : W26.cell? ⟨br, 3, none⟩ = some (.int .i64 0) := (blk_cell (HP.out.get 1 rfl) 3).trans rfl
    have yr4 : W26.cell? ⟨br, 4, none⟩ = some (.slice none 0 0) := (blk_cell (HP.out.get 1 rfl) 4).trans rfl
    have zr0 := blk_frozen (HP.out.get 1 rfl) 0
    have zr1 := blk_frozen (HP.out.get 1 rfl) 1
    have zr2 := blk_frozen (HP.out.get 1 rfl) 2
    have zr3 := blk_frozen (HP.out.get 1 rfl) 3
    have zr4 := blk_frozen (HP.out.get 1 rfl) 4
    go_wp2_with fail
    refine bodyPost_ret (results_cell_row rfl _ _ br 47 #[.int .i64 1, .int .i64 t.f1, .int .i64 t.f2, .int .i64 t.f2, .slice none 0 0] (0, 0) _ rfl ((HP.out.five 1 rfl (.int .i64 1) (.int .i64 t.f1) (.int .i64 t.f2) (.int .i64 t.f2) (.slice none 0 0)).get 1 rfl) Tryd.underlying47 rfl (by kernel_rfl)) rfl ?_
    have hh := (HP.out.five 1 rfl (.int .i64 1) (.int .i64 t.f1) (.int .i64 t.f2) (.int .i64 t.f2) (.slice none 0 0)).tail.tail
    have ha := (HP.out.five 1 rfl (.int .i64 1) (.int .i64 t.f1) (.int .i64 t.f2) (.int .i64 t.f2) (.slice none 0 0))
    refine ⟨?_, q6, ?_, ha.ru HRU.out 2 rfl, ha.G⟩
    · rw [H1.out, C3.out]; try (first | rfl | (rw [M0.out]))
    · have := Pq6.out; rw [HLW.out]; first | rw [if_pos M0.out] | rw [if_neg M0.out]
      first | rw [if_pos C3.out] | rw [if_neg C3.out]
      have h1_ := N1.out; have h2_ := Nn5.out; have h3_ := Nn6.out; have h6_ := Nn2.out; have h7_ := Nn3.out; omega
  have HR3 := Aside0.mk (show R2 = [46, 46] ++ (Lib.itoa t.f3 ++ rest) by rw [HR2.out, if_neg c3]; rfl)
  have C3 := Aside0.mk c3
  clear c3
  have B6 : Aside0 (At s n6 ([46, 46] ++ (Lib.itoa t.f3 ++ rest))) := ⟨by rw [← HR3.out]; exact Bn6.out⟩
  go_upto_region 17 with (go_at_call 17; (with_reducible refine (is_calls ⟨#[46]⟩ n6 true B6.out rfl Pq6.out (HP.out.ru HRU.out 2 rfl)).mono ?_); rintro e W27 ⟨rfl, hr_, hg_⟩; have n0 := Aside0.mk (HP.out.move 2 rfl hg_ hr_.S); clear HP; have HP := n0; clear n0; clear hr_ hg_)
  go_upto_region 18 with (go_at_call 18; (with_reducible refine (take_calls ⟨#[46, 46]⟩ n6 (by decide) B6.out Pq6.out (HP.out.ru HRU.out 2 rfl)).mono ?_); rintro e W28 ⟨rfl, q7, hq7, hr_, hg_⟩; have n0 := Aside0.mk (HP.out.move 2 rfl hg_ hr_.S); clear HP; have HP := n0; clear n0; clear hr_ hg_; have Hq7 := Aside0.mk hq7; clear hq7)
  obtain ⟨n7, hn7⟩ : ∃ x, x = n6 + 2 := ⟨_, rfl⟩
  have Nn7 := Aside0.mk hn7
  have Pq7 : Aside0 (q7 = (n7 : Int)) := ⟨by rw [hn7]; exact Hq7.out⟩
  have Bn7 : Aside0 (At s n7 (Lib.itoa t.f3 ++ rest)) := ⟨by rw [hn7]; exact B6.out.next⟩
  clear hn7 Hq7
  have yg1 : W28.cell? ⟨g, 1, none⟩ = some (.int .i64 q7) := (blk_cell (HP.out.get 2 rfl) 1).trans rfl
  have yg3 : W28.cell? ⟨g, 3, none⟩ = some (.bool false) := (blk_cell (HP.out.get 2 rfl) 3).trans rfl
  go_upto_region 22 with (go_at_call 92; (with_reducible refine (number_calls n7 t.f3 (by have := LO.out; omega) (by have := LO.out; omega) Bn7.out HF.out.nodig Pq7.out (HP.out.ru HRU.out 2 rfl)).mono ?_); rintro e W29 ⟨rfl, q8, hq8, hr_, hg_⟩; have n0 := Aside0.mk (HP.out.move 2 rfl hg_ hr_.S); clear HP; have HP := n0; clear n0; clear hr_ hg_; have Hq8 := Aside0.mk hq8; clear hq8; have yc3 : W29.cell? ⟨bt, 3, none⟩ = some (.int .i64 t.f2) := (blk_cell (HP.out.get 0 rfl) 3).trans rfl; have zc3 := blk_frozen (HP.out.get 0 rfl) 3)
  obtain ⟨n8, hn8⟩ : ∃ x, x = n7 + (Lib.itoa t.f3).length := ⟨_, rfl⟩
  have Nn8 := Aside0.mk hn8
  have Pq8 : Aside0 (q8 = (n8 : Int)) := ⟨by rw [hn8]; exact Hq8.out⟩
  have Bn8 : Aside0 (At s n8 (rest)) := ⟨by rw [hn8]; exact Bn7.out.next⟩
  clear hn8 Hq8
  have n0 := Aside0.mk ((HP.out.put' 0 rfl 3 (.int .i64 t.f3) rfl).1)
  clear HP
  have HP := n0
  clear n0
  clear yg1 yg3 yc3 zc3
  generalize (W29.setCell ⟨bt, 3, none⟩ (.int .i64 t.f3)) = W30 at HP ⊢
  have yg0 : W30.cell? ⟨g, 0, none⟩ = some (.string s) := (blk_cell (HP.out.get 2 rfl) 0).trans rfl
  have yg1 : W30.cell? ⟨g, 1, none⟩ = some (.int .i64 q8) := (blk_cell (HP.out.get 2 rfl) 1).trans rfl
  have yg3 : W30.cell? ⟨g, 3, none⟩ = some (.bool false) := (blk_cell (HP.out.get 2 rfl) 3).trans rfl
  have b0 : 0 ≤ q7 := by have := Pq7.out; omega
  have b1 : q7 ≤ q8 := by have := Pq7.out; have := Pq8.out; have := Nn8.out; omega
  have b2 : q8 ≤ (s.size : Int) := by have h1_ := Bn8.out.2.1; have := Pq8.out; omega
  have b3 : 0 ≤ q8 := by omega
  have b4 : q7 ≤ (s.size : Int) := by omega
  have HS2 := Aside0.mk (show (s.extract q7.toNat q8.toNat).toList = Lib.itoa t.f3 by rw [show q7.toNat = n7 by have := Pq7.out; omega, show q8.toNat = n7 + (Lib.itoa t.f3).length by have := Pq8.out; have := Nn8.out; omega]; exact Bn7.out.sub)
  have u1 : ((s.extract q7.toNat q8.toNat).toList == low.toList) = false := beq_eq_false_iff_ne.2 (by rw [HS2.out, HSUB.out]; exact fun h_ => C3.out (itoa_inj (by have := LO.out; omega) (by have := LO.out; omega) h_))
  have u2 : ((s.extract q7.toNat q8.toNat).toList != low.toList) = true := bne_iff_ne.2 (beq_eq_false_iff_ne.1 u1)
  go_quiet (fail)
  have n0 := Aside0.mk (HP.out.below (pw_below_drewN (Below.refl _ W30) nq))
  clear HP
  have HP := n0
  clear n0
  clear yg0 yg1 yg3
  generalize W30.drewN nq = W31 at HP ⊢
  clear b0 b1 b2 b3 b4
  have yt0 : W31.cell? ⟨bt, 0, none⟩ = some (.int .i64 1) := (blk_cell (HP.out.get 0 rfl) 0).trans rfl
  have yt1 : W31.cell? ⟨bt, 1, none⟩ = some (.int .i64 t.f1) := (blk_cell (HP.out.get 0 rfl) 1).trans rfl
  have yt2 : W31.cell? ⟨bt, 2, none⟩ = some (.int .i64 t.f2) := (blk_cell (HP.out.get 0 rfl) 2).trans rfl
  have yt3 : W31.cell? ⟨bt, 3, none⟩ = some (.int .i64 t.f3) := (blk_cell (HP.out.get 0 rfl) 3).trans rfl
  have yt4 : W31.cell? ⟨bt, 4, none⟩ = some (.slice none 0 0) := (blk_cell (HP.out.get 0 rfl) 4).trans rfl
  have yr0 : W31.cell? ⟨br, 0, none⟩ = some (.int .i64 0) := (blk_cell (HP.out.get 1 rfl) 0).trans rfl
  have yr1 : W31.cell? ⟨br, 1, none⟩ = some (.int .i64 0) := (blk_cell (HP.out.get 1 rfl) 1).trans rfl
  have yr2 : W31.cell? ⟨br, 2, none⟩ = some (.int .i64 0) := (blk_cell (HP.out.get 1 rfl) 2).trans rfl
  have yr3 : W31.cell? ⟨br, 3, none⟩ = some (.int .i64 0) := (blk_cell (HP.out.get 1 rfl) 3).trans rfl
  have yr4 : W31.cell? ⟨br, 4, none⟩ = some (.slice none 0 0) := (blk_cell (HP.out.get 1 rfl) 4).trans rfl
  have zr0 := blk_frozen (HP.out.get 1 rfl) 0
  have zr1 := blk_frozen (HP.out.get 1 rfl) 1
  have zr2 := blk_frozen (HP.out.get 1 rfl) 2
  have zr3 := blk_frozen (HP.out.get 1 rfl) 3
  have zr4 := blk_frozen (HP.out.get 1 rfl) 4
  go_wp2_with fail
  refine bodyPost_ret (results_cell_row rfl _ _ br 47 #[.int .i64 1, .int .i64 t.f1, .int .i64 t.f2, .int .i64 t.f3, .slice none 0 0] (0, 0) _ rfl ((HP.out.five 1 rfl (.int .i64 1) (.int .i64 t.f1) (.int .i64 t.f2) (.int .i64 t.f3) (.slice none 0 0)).get 1 rfl) Tryd.underlying47 rfl (by kernel_rfl)) rfl ?_
  have hh := (HP.out.five 1 rfl (.int .i64 1) (.int .i64 t.f1) (.int .i64 t.f2) (.int .i64 t.f3) (.slice none 0 0)).tail.tail
  have ha := (HP.out.five 1 rfl (.int .i64 1) (.int .i64 t.f1) (.int .i64 t.f2) (.int .i64 t.f3) (.slice none 0 0))
  refine ⟨?_, q8, ?_, ha.ru HRU.out 2 rfl, ha.G⟩
  · rw [H1.out]; try (first | rfl | (rw [M0.out]))
  · have := Pq8.out; rw [HLW.out]; first | rw [if_pos M0.out] | rw [if_neg M0.out]
    first | rw [if_pos C3.out] | rw [if_neg C3.out]
    have h1_ := N1.out; have h2_ := Nn5.out; have h3_ := Nn6.out; have h4_ := Nn7.out; have h5_ := Nn8.out; have h6_ := Nn2.out; have h7_ := Nn3.out; omega
end Go.Proofs.YtilmjckpphlniaaDoor.PRuleRound
