/- For the law RuleRound: the law itself, walked. No condition. -/
import Derived.Test.YtilmjckpphlniaaDoorRuJ
namespace Go.Proofs.YtilmjckpphlniaaDoor.PRuleRound
open Go.RowKit Go.Proofs.YtilmjckpphlniaaDoorW.PrintWords Go.Proofs.YtilmjckpphlniaaDoorW.PrintLast Go.Proofs.YtilmjckpphlniaaDoorW.PrintMore
set_option linter.unusedVariables false
set_option linter.unusedSimpArgs false

set_option maxHeartbeats 4000000 in
set_option maxRecDepth 100000 in
theorem law_bad (k : Nat) (l : List S47) (A : Option Addr) (c : Nat) (n e1 : Int) (w : World) (hr : Kd.C k47 w A l.length l) (hc : l.length ≤ c) (h : lang_ruleFault.f k l = some e1) (he : e1 ≠ 0) :
    Calls Tryd.prog 3 #[.agg #[.slice A l.length c], .int .i64 n] w fun e w' => e = .returned (.bool true) ∧ Below w.heap.size w w' := by
  have hu24 := Tryd.underlying24
  have HR := Aside0.mk hr
  have HC := Aside0.mk hc
  have H := Aside0.mk h
  have HP := Aside0.mk (Bs.nil w)
  have c1 := he
  have HE := Aside0.mk he
  clear hr hc h he
  go_enter Tryd.func3, Tryd.ntmps3
  go_upto_region 3 with (first | ((with_reducible refine gate_dst (N := 2) rfl ?_); refine box_event ?hg (N := 2) ?hd (cs := #[.slice A l.length c]) (t := 24) ?hr ?_; (case hd => rfl); (case hg => rfl); (case hr => first | (go_simp; done) | (go_simp; rfl)); intro bl hg_ w1 hbox hb; have n0 := Aside0.mk (HP.out.new hg_ hbox hb); clear HP; have HP := n0; clear n0; clear hg_ hbox hb) | (go_at_call 5; refine (awake_calls _).mono ?_; rintro e w2 ⟨rfl, hb⟩; have n0 := Aside0.mk (HP.out.below hb); clear HP; have HP := n0; clear n0; clear hb; have yl0 : w2.cell? ⟨bl, 0, none⟩ = some (.slice A l.length c) := (blk_cell (HP.out.get 0 rfl) 0).trans rfl))
  have e1a : (e1 == 0) = false := beq_eq_false_iff_ne.2 c1
  have e1b : (e1 != 0) = true := bne_iff_ne.2 c1
  go_wp2_with (go_at_call 6; refine (rs_bad k l A c e1 _ (Kd.C_below HR.out HP.out.B) HC.out H.out HE.out).mono ?_; rintro e w3 ⟨rfl, hb⟩; have n0 := Aside0.mk (HP.out.below hb); clear HP; have HP := n0; clear n0; clear hb)
  go_ret
  exact ⟨rfl, HP.out.B⟩
theorem RsO_long {l : List S47} (h : 2000 < (rtext l).length) : RsO l = (⟨#[]⟩, 4) := if_pos h
theorem RsO_ok {l : List S47} (h : ¬ 2000 < (rtext l).length) : RsO l = (sb (rtext l), 0) := if_neg h
set_option maxHeartbeats 4000000 in
set_option maxRecDepth 100000 in
theorem law_long (k : Nat) (l : List S47) (A : Option Addr) (c : Nat) (n : Int) (B : Nat) (w : World) (hp : PT B w) (hr : Kd.C k47 w A l.length l) (hc : l.length ≤ c) (h : lang_ruleFault.f k l = some 0) (hok : ∀ t ∈ l, OkT 12 t) (hl : l.length ≤ 6) (hlong : 2000 < (rtext l).length) :
    Calls Tryd.prog 3 #[.agg #[.slice A l.length c], .int .i64 n] w fun e w' => e = .returned (.bool true) ∧ Below w.heap.size w w' := by
  have hu24 := Tryd.underlying24
  have HT := Aside0.mk hp
  have HR := Aside0.mk hr
  have HC := Aside0.mk hc
  have H := Aside0.mk h
  have HK := Aside0.mk hok
  have HL := Aside0.mk hl
  have RS := Aside0.mk (RsO_long hlong)
  have HP := Aside0.mk (Bs.nil w)
  clear hp hr hc h hok hl hlong
  go_enter Tryd.func3, Tryd.ntmps3
  go_upto_region 3 with (first | ((with_reducible refine gate_dst (N := 2) rfl ?_); refine box_event ?hg (N := 2) ?hd (cs := #[.slice A l.length c]) (t := 24) ?hr ?_; (case hd => rfl); (case hg => rfl); (case hr => first | (go_simp; done) | (go_simp; rfl)); intro bl hg_ w1 hbox hb; have n0 := Aside0.mk (HP.out.new hg_ hbox hb); clear HP; have HP := n0; clear n0; clear hg_ hbox hb) | (go_at_call 5; refine (awake_calls _).mono ?_; rintro e w2 ⟨rfl, hb⟩; have n0 := Aside0.mk (HP.out.below hb); clear HP; have HP := n0; clear n0; clear hb; have yl0 : w2.cell? ⟨bl, 0, none⟩ = some (.slice A l.length c) := (blk_cell (HP.out.get 0 rfl) 0).trans rfl))
  go_wp2_with (go_at_call 6; refine (rs_ok k l A c B _ (HT.out.below HP.out.B) (Kd.C_below HR.out HP.out.B) HC.out H.out HK.out HL.out).mono ?_; rintro e w3 ⟨he, hb⟩; rw [RS.out] at he; subst he; have n0 := Aside0.mk (HP.out.below hb); clear HP; have HP := n0; clear n0; clear hb)
  go_ret
  exact ⟨rfl, HP.out.B⟩
set_option maxHeartbeats 8000000 in
set_option maxRecDepth 100000 in
theorem law_good (k : Nat) (l : List S47) (A : Option Addr) (c : Nat) (n a : Int) (B : Nat) (w : World) (hp : PT B w) (hr : Kd.C k47 w A l.length l) (hc : l.length ≤ c) (h : lang_ruleFault.f k l = some 0) (hok : ∀ t ∈ l, OkT 12 t) (hl : l.length ≤ 6) (hshort : ¬ 2000 < (rtext l).length) (hne : l ≠ [] → 0 < (rtext l).length) (hf : lang_Form.f k l n = some (a, 0)) (ha0 : 0 ≤ a) (ha1 : a ≤ (l.length : Int)) :
    Calls Tryd.prog 3 #[.agg #[.slice A l.length c], .int .i64 n] w fun e w' => e = .returned (.bool true) ∧ Below w.heap.size w w' := by
  have hu24 := Tryd.underlying24
  have HT := Aside0.mk hp
  have HR := Aside0.mk hr
  have HC := Aside0.mk hc
  have H := Aside0.mk h
  have HK := Aside0.mk hok
  have HL := Aside0.mk hl
  have HF := Aside0.mk hf
  obtain ⟨sv, hsv⟩ : ∃ sv, sv = sb (rtext l) := ⟨_, rfl⟩
  have RS := Aside0.mk (show RsO l = (sv, 0) by rw [hsv]; exact RsO_ok hshort)
  have RR := Aside0.mk (show ∀ w, Calls Tryd.prog 7 #[.string sv] w (RrO l w) from fun w => by
    cases l with
    | nil =>
      have e : sv = ⟨#[]⟩ := by rw [hsv]; rfl
      rw [e]
      refine (rr_nil w).mono ?_
      rintro e w' ⟨rfl, hb⟩
      exact ⟨none, 0, rfl, Kd.C_nil _ _, Nat.le_refl _, hb⟩
    | cons x L' =>
      have hz : sv.size = (rtext (x :: L')).length := by rw [hsv, sb_size]
      exact rr_cons k x L' sv w (by rw [hsv]) (by rw [hz]; omega) (by rw [hz]; exact hne (by simp)) h hok hl)
  have HP := Aside0.mk (Bs.nil w)
  have g1 : decide (0 ≤ a) = true := decide_eq_true ha0
  have g2 : decide (a ≤ (l.length : Int)) = true := decide_eq_true ha1
  have g3 : (a == a) = true := beq_self_eq_true a
  have g4 : (sv.toList == sv.toList) = true := beq_self_eq_true _
  have HA0 := Aside0.mk ha0
  have HA1 := Aside0.mk ha1
  clear hp hr hc h hok hl hshort hne hf ha0 ha1 hsv
  go_enter Tryd.func3, Tryd.ntmps3
  go_upto_region 3 with (first | ((with_reducible refine gate_dst (N := 2) rfl ?_); refine box_event ?hg (N := 2) ?hd (cs := #[.slice A l.length c]) (t := 24) ?hr ?_; (case hd => rfl); (case hg => rfl); (case hr => first | (go_simp; done) | (go_simp; rfl)); intro bl hg_ w1 hbox hb; have n0 := Aside0.mk (HP.out.new hg_ hbox hb); clear HP; have HP := n0; clear n0; clear hg_ hbox hb) | (go_at_call 5; refine (awake_calls _).mono ?_; rintro e w2 ⟨rfl, hb⟩; have n0 := Aside0.mk (HP.out.below hb); clear HP; have HP := n0; clear n0; clear hb; have yl0 : w2.cell? ⟨bl, 0, none⟩ = some (.slice A l.length c) := (blk_cell (HP.out.get 0 rfl) 0).trans rfl))
  go_upto_region 6 with (go_at_call 6; refine (rs_ok k l A c B _ (HT.out.below HP.out.B) (Kd.C_below HR.out HP.out.B) HC.out H.out HK.out HL.out).mono ?_; rintro e w3 ⟨he, hb⟩; rw [RS.out] at he; subst he; have n0 := Aside0.mk (HP.out.below hb); clear HP; have HP := n0; clear n0; clear hb)
  clear yl0
  go_upto_region 7 with (first | (go_at_call 7; refine (RR.out _).mono ?_; rintro e w4 ⟨A7, c7, rfl, hq_, hc_, hb⟩; have HQ := Aside0.mk hq_; have HQC := Aside0.mk hc_; have n0 := Aside0.mk (HP.out.below hb); clear HP; have HP := n0; clear n0; clear hb hq_ hc_) | ((with_reducible refine gate_dst (N := 7) rfl ?_); refine box_event ?hg (N := 7) ?hd (cs := #[.slice none 0 0]) (t := 24) ?hr ?_; (case hd => rfl); (case hg => rfl); (case hr => first | (go_simp; done) | (go_simp; rfl)); intro bq hg_ w5 hbox hb; have n0 := Aside0.mk (HP.out.new hg_ hbox hb); have n1 := Aside0.mk (Kd.F_below (Kd.F_bound (Kd.C_F k47_heap HQ.out)) hb); have n2 := Aside0.mk ((show _ = bq from hg_.symm)); clear HP HQ; have HP := n0; have HQ := n1; have HGE := n2; clear n0 n1 n2; clear hg_ hbox hb; have yq0 : w5.cell? ⟨bq, 0, none⟩ = some (.slice none 0 0) := (blk_cell (HP.out.get 0 rfl) 0).trans rfl; have zq0 := blk_frozen (HP.out.get 0 rfl) 0))
  have n0 := Aside0.mk (Kd.F_now (Kd.F_step HQ.out (fun k hk hlt => Below.heap_setCell w5 ⟨bq, 0, none⟩ (.slice A7 l.length c7) k (by have := hk.2; have := HGE.out; show k ≠ bq; omega))))
  have n1 := Aside0.mk (HP.out.put 0 rfl 0 (.slice A7 l.length c7))
  clear HQ HP
  have HQ := n0
  have HP := n1
  clear n0 n1
  clear yq0 zq0 HGE
  generalize (w5.setCell ⟨bq, 0, none⟩ (.slice A7 l.length c7)) = w6 at HP HQ ⊢
  have yq0 : w6.cell? ⟨bq, 0, none⟩ = some (.slice A7 l.length c7) := (blk_cell (HP.out.get 0 rfl) 0).trans rfl
  go_upto_region 8 with (go_at_call 6; refine (rs_ok k l A7 c7 B _ (HT.out.below HP.out.B) HQ.out HQC.out H.out HK.out HL.out).mono ?_; rintro e w7 ⟨he, hb⟩; rw [RS.out] at he; subst he; have nq := Aside0.mk (Kd.C_below HQ.out hb); clear HQ; have HQ := nq; clear nq; have n0 := Aside0.mk (HP.out.below hb); clear HP; have HP := n0; clear n0; clear hb)
  clear yq0
  have yl0 : w7.cell? ⟨bl, 0, none⟩ = some (.slice A l.length c) := (blk_cell (HP.out.get 1 rfl) 0).trans rfl
  go_upto_region 9 with (go_at_call 8; refine (lang_Form.calls k A c l n a 0 _ (Kd.C_below HR.out HP.out.B) HC.out HF.out).mono ?_; rintro e w8 ⟨rfl, hb⟩; have nq := Aside0.mk (Kd.C_below HQ.out hb); clear HQ; have HQ := nq; clear nq; have n0 := Aside0.mk (HP.out.below hb); clear HP; have HP := n0; clear n0; clear hb)
  clear yl0
  have yq0 : w8.cell? ⟨bq, 0, none⟩ = some (.slice A7 l.length c7) := (blk_cell (HP.out.get 0 rfl) 0).trans rfl
  go_upto_region 10 with (go_at_call 8; refine (lang_Form.calls k A7 c7 l n a 0 _ HQ.out HQC.out HF.out).mono ?_; rintro e w9 ⟨rfl, hb⟩; have nq := Aside0.mk (Kd.C_below HQ.out hb); clear HQ; have HQ := nq; clear nq; have n0 := Aside0.mk (HP.out.below hb); clear HP; have HP := n0; clear n0; clear hb)
  clear yq0
  have yl0 : w9.cell? ⟨bl, 0, none⟩ = some (.slice A l.length c) := (blk_cell (HP.out.get 1 rfl) 0).trans rfl
  go_wp2_with fail
  go_ret
  exact ⟨rfl, HP.out.B⟩
end Go.Proofs.YtilmjckpphlniaaDoor.PRuleRound
