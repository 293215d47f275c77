/- For the law RuleRound: RuleString, ReadRule and the law itself, walked. No condition. -/
import Derived.Test.YtilmjckpphlniaaDoorRuI
namespace Go.Proofs.YtilmjckpphlniaaDoor.PRuleRound
open Go.RowKit Go.Proofs.YtilmjckpphlniaaDoorW.PrintWords Go.Proofs.YtilmjckpphlniaaDoorW.PrintLast Go.Proofs.YtilmjckpphlniaaDoorW.PrintMore
set_option linter.unusedVariables false
set_option linter.unusedSimpArgs false

abbrev sSemi : List UInt8 := [59, 32]
/-- what is written of a rule -/
def rtext (l : List S47) : List UInt8 := Lib.join (l.map (tx 12)) sSemi
theorem rtext_len {l : List S47} (h : ∀ t ∈ l, OkT 12 t) (hl : l.length ≤ 6) : (rtext l).length ≤ 100000000000000 := by
  have h1 := join_len sSemi (tl 12) (by decide) (l.map (tx 12)) (fun x hx => by
    obtain ⟨t, ht, rfl⟩ := List.mem_map.1 hx
    exact tx_len 12 t (h t ht))
  rw [List.length_map] at h1
  have h2 := tl_small (n := 12) (Nat.le_refl _)
  have h3 : l.length * (tl 12 + 3) ≤ 6 * (tl 12 + 3) := Nat.mul_le_mul_right _ hl
  unfold rtext
  omega
def RsO (l : List S47) : ByteArray × Int := if 2000 < (rtext l).length then (⟨#[]⟩, 4) else (sb (rtext l), 0)
set_option maxHeartbeats 2000000 in
set_option maxRecDepth 100000 in
theorem rs_bad (k : Nat) (l : List S47) (A : Option Addr) (c : Nat) (e1 : Int) (w : World) (hr : Kd.C k47 w A l.length l) (hc : l.length ≤ c) (h : lang_ruleFault.f k l = some e1) (he : e1 ≠ 0) :
    Calls Tryd.prog 6 #[.agg #[.slice A l.length c]] w fun e w' => e = .returned (.tuple #[.string ⟨#[]⟩, .int .i64 e1]) ∧ Below w.heap.size w w' := by
  have hu24 := Tryd.underlying24
  have HR := Aside0.mk hr
  have HC := Aside0.mk hc
  have H := Aside0.mk h
  have HP := Aside0.mk (Bs.nil w)
  have c1 := he
  clear hr hc h
  go_enter Tryd.func6, Tryd.ntmps6
  go_upto_region 1 with ((with_reducible refine gate_dst (N := 1) rfl ?_); refine box_event ?hg (N := 1) ?hd (cs := #[.slice A l.length c]) (t := 24) ?hr ?_; (case hd => rfl); (case hg => rfl); (case hr => first | (go_simp; done) | (go_simp; rfl)); intro bl hg_ w1 hbox hb; have n0 := Aside0.mk (HP.out.new hg_ hbox hb); clear HP; have HP := n0; clear n0; clear hg_ hbox hb; have yl0 : w1.cell? ⟨bl, 0, none⟩ = some (.slice A l.length c) := (blk_cell (HP.out.get 0 rfl) 0).trans rfl)
  have e1a : (e1 == 0) = false := beq_eq_false_iff_ne.2 c1
  have e1b : (e1 != 0) = true := bne_iff_ne.2 c1
  go_wp2_with (go_at_call 13; refine (lang_ruleFault.calls k A c l e1 _ (Kd.C_below HR.out HP.out.B) HC.out H.out).mono ?_; rintro e w2 ⟨rfl, hb⟩; have n0 := Aside0.mk (HP.out.below hb); clear HP; have HP := n0; clear n0; clear hb)
  go_ret2
  exact ⟨rfl, HP.out.B⟩
set_option maxHeartbeats 4000000 in
set_option maxRecDepth 100000 in
theorem rs_ok (k : Nat) (l : List S47) (A : Option Addr) (c : Nat) (B : Nat) (w : World) (hp : PT B w) (hr : Kd.C k47 w A l.length l) (hc : l.length ≤ c) (h : lang_ruleFault.f k l = some 0) (hok : ∀ t ∈ l, OkT 12 t) (hl : l.length ≤ 6) :
    Calls Tryd.prog 6 #[.agg #[.slice A l.length c]] w fun e w' => e = .returned (.tuple #[.string (RsO l).1, .int .i64 (RsO l).2]) ∧ Below w.heap.size w w' := by
  have hu24 := Tryd.underlying24
  have hu47 := Tryd.underlying47
  have HT := Aside0.mk hp
  have HR := Aside0.mk hr
  have HC := Aside0.mk hc
  have H := Aside0.mk h
  have HK := Aside0.mk hok
  have HL := Aside0.mk hl
  have LQ := Aside0.mk (rtext_len hok hl)
  have HP := Aside0.mk (Bs.nil w)
  clear hp hr hc h hok hl
  go_enter Tryd.func6, Tryd.ntmps6
  go_upto_region 1 with ((with_reducible refine gate_dst (N := 1) rfl ?_); refine box_event ?hg (N := 1) ?hd (cs := #[.slice A l.length c]) (t := 24) ?hr ?_; (case hd => rfl); (case hg => rfl); (case hr => first | (go_simp; done) | (go_simp; rfl)); intro bl hg_ w1 hbox hb; have n0 := Aside0.mk (HP.out.new hg_ hbox hb); clear HP; have HP := n0; clear n0; clear hg_ hbox hb; have yl0 : w1.cell? ⟨bl, 0, none⟩ = some (.slice A l.length c) := (blk_cell (HP.out.get 0 rfl) 0).trans rfl)
  go_upto_region 4 with (go_at_call 13; refine (lang_ruleFault.calls k A c l 0 _ (Kd.C_below HR.out HP.out.B) HC.out H.out).mono ?_; rintro e w2 ⟨rfl, hb⟩; have n0 := Aside0.mk (HP.out.below hb); clear HP; have HP := n0; clear n0; clear hb)
  clear yl0
  have yl0 : w2.cell? ⟨bl, 0, none⟩ = some (.slice A l.length c) := (blk_cell (HP.out.get 0 rfl) 0).trans rfl
  have HO := Aside0.mk (Kd.R_nil Kd.string 9 w2 w.heap.size (fun _ => True))
  go_upto_region 6 with (fail)
  clear yl0
  go_loopg [5, 17] l.length (fun kq v5 v17 w' => ∃ (ii : Int) (i : Nat) (vO : Value), vO = v5 ∧ v17 = .int .i64 ii ∧ Aside0 (ii = (i : Int)) ∧ Aside0 (i + kq = l.length) ∧ Aside0 (Kd.R Kd.string 9 w' w.heap.size (fun _ => True) vO ((l.take i).map (fun k => sb (tx 12 k)))) ∧ Aside0 (Bs w w' [(bl, #[.slice A l.length c], 24)]))
  case atStart => exact ⟨0, 0, _, rfl, rfl, ⟨rfl⟩, ⟨by omega⟩, HO, HP⟩
  case round =>
    clear HP HO
    obtain ⟨ii, i, vO, rfl, rfl, HII, HI, HO, HP⟩ := hrel
    cases gk with
    | zero =>
      have e0 : decide (ii < (l.length : Int)) = false := decide_eq_false (by have := HII.out; have := HI.out; omega)
      have hO := HO.out
      rw [List.take_of_length_le (by have := HI.out; omega)] at hO
      clear HO
      have HO := Aside0.mk hO
      clear hO
      have EQ := Aside0.mk (show (l.map (fun k => sb (tx 12 k))).map (·.data.toList) = l.map (tx 12) by rw [List.map_map]; exact List.map_congr_left (fun k _ => rfl))
      have LN := Aside0.mk (show (l.map (fun k => sb (tx 12 k))).length ≤ 6 by rw [List.length_map]; exact HL.out)
      generalize l.map (fun k => sb (tx 12 k)) = outs at HO EQ LN
      have ER := Aside0.mk (show Lib.join (outs.map (·.data.toList)) sSemi = rtext l by rw [EQ.out]; rfl)
      obtain ⟨sv, hsv⟩ : ∃ sv, sv = sb (rtext l) := ⟨_, rfl⟩
      have HSV := Aside0.mk hsv
      clear hsv
      have HSZ := Aside0.mk (show sv.size = (rtext l).length by rw [HSV.out, sb_size])
      have HRS := Aside0.mk (show RsO l = if 2000 < sv.size then (⟨#[]⟩, 4) else (sv, 0) by rw [HSZ.out, HSV.out]; rfl)
      obtain ⟨Av, cv, hv⟩ := Kd.R_slice HO.out
      subst hv
      by_cases c5 : 2000 < sv.size
      case pos =>
        have RS := Aside0.mk (show RsO l = (⟨#[]⟩, 4) by rw [HRS.out, if_pos c5])
        have d1 : decide ((2000 : Int) < (sv.size : Int)) = true := decide_eq_true (by omega)
        have d2 : decide (2000 < sv.size) = true := decide_eq_true c5
        go_wp2_with (go_at_call 15; (with_reducible refine (join_calls (.slice Av outs.length cv) w.heap.size (fun _ => True) outs ⟨#[59, 32]⟩ _ HO.out (by have := LN.out; omega) (by have h_ := ER.out; have := LQ.out; show (Lib.join (outs.map (·.data.toList)) sSemi).length ≤ _; rw [h_]; omega)).mono ?_); rintro e w3 ⟨he, hb⟩; replace he := he.trans (show _ = Ending.returned (.string sv) by rw [HSV.out, ← ER.out]); subst he; have n0 := Aside0.mk (HP.out.below hb); clear HP; have HP := n0; clear n0; clear hb)
        go_ret2
        exact ⟨by rw [RS.out]; rfl, HP.out.B⟩
      have RS := Aside0.mk (show RsO l = (sv, 0) by rw [HRS.out, if_neg c5])
      have d1 : decide ((2000 : Int) < (sv.size : Int)) = false := decide_eq_false (by omega)
      have d2 : decide (2000 < sv.size) = false := decide_eq_false c5
      go_wp2_with (go_at_call 15; (with_reducible refine (join_calls (.slice Av outs.length cv) w.heap.size (fun _ => True) outs ⟨#[59, 32]⟩ _ HO.out (by have := LN.out; omega) (by have h_ := ER.out; have := LQ.out; show (Lib.join (outs.map (·.data.toList)) sSemi).length ≤ _; rw [h_]; omega)).mono ?_); rintro e w3 ⟨he, hb⟩; replace he := he.trans (show _ = Ending.returned (.string sv) by rw [HSV.out, ← ER.out]); subst he; have n0 := Aside0.mk (HP.out.below hb); clear HP; have HP := n0; clear n0; clear hb)
      go_ret2
      exact ⟨by rw [RS.out]; rfl, HP.out.B⟩
    | succ k1 =>
      have p0 : 0 ≤ ii := by have := HII.out; omega
      have p1 : ii < (l.length : Int) := by have := HII.out; have := HI.out; omega
      have e3 : decide (ii < (l.length : Int)) = true := decide_eq_true p1
      have e4 : decide (0 ≤ ii) = true := decide_eq_true p0
      obtain ⟨ad, B4, d4, e_, x0, x1, x2, x3, x4, hrd⟩ := at_F47 (Kd.C_F k47_heap HR.out) ii p0 p1
      cases e_
      have HTK := Aside0.mk (show l.take (i + 1) = l.take i ++ [rd_T47 l ii] by rw [HII.out]; exact rd47_take (by have := HI.out; omega))
      obtain ⟨k, hkk⟩ : ∃ k, k = rd_T47 l ii := ⟨_, rfl⟩
      rw [← hkk] at x0 x1 x2 x3 x4 hrd HTK
      have HMK := Aside0.mk (show k ∈ l by rw [hkk, HII.out, rd47_get (by have := HI.out; omega)]; exact List.getElem_mem _)
      clear hkk
      have RD := Aside0.mk hrd
      clear hrd
      replace x0 := (HP.out.B.cell (World.block_lt_of_cell? w _ x0)).trans x0
      replace x1 := (HP.out.B.cell (World.block_lt_of_cell? w _ x1)).trans x1
      replace x2 := (HP.out.B.cell (World.block_lt_of_cell? w _ x2)).trans x2
      replace x3 := (HP.out.B.cell (World.block_lt_of_cell? w _ x3)).trans x3
      replace x4 := (HP.out.B.cell (World.block_lt_of_cell? w _ x4)).trans x4
      replace p0 := eq_true p0
      replace p1 := eq_true p1
      have LW := Aside0.mk HP.out.size
      go_upto_region 8 with ((with_reducible refine gate_dst (N := 7) rfl ?_); refine box_event ?hg (N := 7) ?hd (cs := #[.int .i64 0, .int .i64 0, .int .i64 0, .int .i64 0, .slice none 0 0]) (t := 47) ?hr ?_; (case hd => rfl); (case hg => rfl); (case hr => first | (go_simp; done) | (go_simp; rfl)); intro bk hg_ W1 hbox hb; have n0 := Aside0.mk (HP.out.new hg_ hbox hb); have n1 := Aside0.mk (Kd.R_below HO.out hb); have n2 := Aside0.mk ((show w.heap.size ≤ bk by rw [hg_]; exact LW.out)); clear HP HO; have HP := n0; have HO := n1; have HGE := n2; clear n0 n1 n2; clear hg_ hbox hb; have yz0 : W1.cell? ⟨bk, 0, none⟩ = some (.int .i64 0) := (blk_cell (HP.out.get 0 rfl) 0).trans rfl; have yz1 : W1.cell? ⟨bk, 1, none⟩ = some (.int .i64 0) := (blk_cell (HP.out.get 0 rfl) 1).trans rfl; have yz2 : W1.cell? ⟨bk, 2, none⟩ = some (.int .i64 0) := (blk_cell (HP.out.get 0 rfl) 2).trans rfl; have yz3 : W1.cell? ⟨bk, 3, none⟩ = some (.int .i64 0) := (blk_cell (HP.out.get 0 rfl) 3).trans rfl; have yz4 : W1.cell? ⟨bk, 4, none⟩ = some (.slice none 0 0) := (blk_cell (HP.out.get 0 rfl) 4).trans rfl; have zz0 := blk_frozen (HP.out.get 0 rfl) 0; have zz1 := blk_frozen (HP.out.get 0 rfl) 1; have zz2 := blk_frozen (HP.out.get 0 rfl) 2; have zz3 := blk_frozen (HP.out.get 0 rfl) 3; have zz4 := blk_frozen (HP.out.get 0 rfl) 4)
      have HRN := rowo HO.out (Kd.R_ne HO.out (HP.out.get 0 rfl) (by decide))
      have n0 := Aside0.mk (HP.out.five 0 rfl (.int .i64 k.f0) (.int .i64 k.f1) (.int .i64 k.f2) (.int .i64 k.f3) (.slice B4 k.f4.length d4))
      have n1 := Aside0.mk (show Kd.R Kd.string 9 (((((W1.setCell ⟨bk, 0, none⟩ (.int .i64 k.f0)).setCell ⟨bk, 1, none⟩ (.int .i64 k.f1)).setCell ⟨bk, 2, none⟩ (.int .i64 k.f2)).setCell ⟨bk, 3, none⟩ (.int .i64 k.f3)).setCell ⟨bk, 4, none⟩ (.slice B4 k.f4.length d4)) w.heap.size (fun _ => True) vO ((l.take i).map (fun k => sb (tx 12 k))) from Kd.R_mono (Kd.R_far (Kd.R_far (Kd.R_far (Kd.R_far (Kd.R_far HRN (fun _ hk => hk) _) (fun _ hk => hk) _) (fun _ hk => hk) _) (fun _ hk => hk) _) (fun _ hk => hk) _) (fun _ _ => trivial))
      clear HP HO
      have HP := n0
      have HO := n1
      clear n0 n1
      clear HRN yz0 zz0 x0 yz1 zz1 x1 yz2 zz2 x2 yz3 zz3 x3 yz4 zz4 x4
      generalize (((((W1.setCell ⟨bk, 0, none⟩ (.int .i64 k.f0)).setCell ⟨bk, 1, none⟩ (.int .i64 k.f1)).setCell ⟨bk, 2, none⟩ (.int .i64 k.f2)).setCell ⟨bk, 3, none⟩ (.int .i64 k.f3)).setCell ⟨bk, 4, none⟩ (.slice B4 k.f4.length d4)) = W2 at HP HO ⊢
      have RD2 := Aside0.mk ((RD.out.below (HP.out.B)))
      clear RD
      have RD := RD2
      clear RD2
      have yk0 : W2.cell? ⟨bk, 0, none⟩ = some (.int .i64 k.f0) := (blk_cell (HP.out.get 0 rfl) 0).trans rfl
      have yk1 : W2.cell? ⟨bk, 1, none⟩ = some (.int .i64 k.f1) := (blk_cell (HP.out.get 0 rfl) 1).trans rfl
      have yk2 : W2.cell? ⟨bk, 2, none⟩ = some (.int .i64 k.f2) := (blk_cell (HP.out.get 0 rfl) 2).trans rfl
      have yk3 : W2.cell? ⟨bk, 3, none⟩ = some (.int .i64 k.f3) := (blk_cell (HP.out.get 0 rfl) 3).trans rfl
      have yk4 : W2.cell? ⟨bk, 4, none⟩ = some (.slice B4 k.f4.length d4) := (blk_cell (HP.out.get 0 rfl) 4).trans rfl
      obtain ⟨sv, hs⟩ : ∃ s, s = sb (tx 12 k) := ⟨_, rfl⟩
      have HSE := Aside0.mk hs
      clear hs
      have HOL := Aside0.mk (show ((l.take i).map (fun k => sb (tx 12 k))).length ≤ 1000000 by rw [List.length_map, List.length_take]; have := HL.out; omega)
      have HTM := Aside0.mk (show (l.take (i + 1)).map (fun k => sb (tx 12 k)) = ((l.take i).map (fun k => sb (tx 12 k))) ++ [sv] by rw [HTK.out, List.map_append, HSE.out]; rfl)
      generalize ((l.take i).map (fun k => sb (tx 12 k))) = outs at HO HOL HTM
      obtain ⟨A6, c6, hv6⟩ := Kd.R_slice HO.out
      subst hv6
      go_wp2_with (first | (go_at_call 14; refine (tx_calls 12 (Nat.le_refl _) k B4 d4 B _ (HT.out.below HP.out.B) (HK.out k HMK.out) (Kd.F_now RD.out.1) RD.out.2).mono ?_; rintro e W3 ⟨he, hb⟩; rw [← HSE.out] at he; subst he; have n0 := Aside0.mk (HP.out.below hb); have n1 := Aside0.mk (Kd.R_below HO.out hb); clear HP HO; have HP := n0; have HO := n1; clear n0 n1; clear hb) | ((with_reducible refine gate_builtin (b := .append) (xs := #[.tmp 21, .tmp 24]) rfl ?_); (try (refine gate_guard (by rfl) ?_; dsimp only)); at_builtin; refine Kd.R_append Kd.string (w0 := W3) w.heap.size rfl (.tmp 21) (.tmp 24) 40 9 (.string ⟨#[]⟩) 16 rfl Tryd.underlying40 info9r rfl (by decide) (by omega) (.slice A6 outs.length c6) outs sv [.string sv] (fun _ => True) (fun _ => False) rfl (by rfl) (show Kd.M Kd.string _ _ _ sv [.string sv] from rfl) (fun _ h => h.elim) (fun _ _ => trivial) HO.out (Below.refl _ _) HP.out.size (by have := HOL.out; omega) ?_; intro v1 w9 ho hb9 hg hat; generalize houts : outs ++ [sv] = outs2 at ho; have HTK2 := Aside0.mk (HTM.out.trans houts); clear houts; have n0 := Aside0.mk (HP.out.grown hg (HP.out.B.grown hg HP.out.size (fun k e => Kd.R_base HO.out k e)) (HP.out.apart HO.out rfl)); have n2 := Aside0.mk ho; clear HP HO ho hb9 hg hat; have HP := n0; have HO := n2; clear n0 n2))
      go_roundg k1
      case measure => omega
      case rel => exact ⟨_, i + 1, _, rfl, rfl, ⟨by have h2_ := HII.out; have h3_ := HI.out; have h4_ := HL.out; unfold wrap64; omega⟩, ⟨by have := HI.out; omega⟩, ⟨by rw [HTK2.out]; exact HO.out⟩, ⟨HP.out.tail⟩⟩
theorem Bs.apartN {w W : World} {l : List (Nat × Array Value × Nat)} {base : Nat} {ok : Nat → Prop} {v : Value} {xs : List S47} (h : Bs w W l) (ho : Kd.N k47 47 W base ok v xs) (ht : l.all (fun p => p.2.2 != 47) = true) : ∀ (i : Nat) (p : Nat × Array Value × Nat), l[i]? = some p → some p.1 ≠ v.ownBlock := fun i p hp =>
  Kd.N_ne ho (h.blk i p hp) (fun he => by
    have := List.all_eq_true.1 ht p (List.mem_of_getElem? hp)
    rw [bne_iff_ne] at this
    exact this he.symm)
theorem fol_semi (f : S47 → List UInt8) : ∀ l, Fol (tls f sSemi l)
  | [] => fun c hc => by simp [tls] at hc
  | k :: l => fun c hc => by simp [tls] at hc; exact .inr (.inr hc.symm)
theorem no_semi (f : S47 → List UInt8) : ∀ l, ([32, 38] : List UInt8).isPrefixOf (tls f sSemi l) = false ∧ ([32, 124] : List UInt8).isPrefixOf (tls f sSemi l) = false
  | [] => ⟨rfl, rfl⟩
  | k :: l => ⟨rfl, rfl⟩
set_option maxHeartbeats 4000000 in
set_option maxRecDepth 100000 in
theorem rr_nil (w : World) : Calls Tryd.prog 7 #[.string ⟨#[]⟩] w fun e w' => e = .returned (.tuple #[.agg #[.slice none 0 0], .int .i64 0, .int .i64 0]) ∧ Below w.heap.size w w' := by
  have hu24 := Tryd.underlying24
  have HP := Aside0.mk (Bs.nil w)
  go_enter Tryd.func7, Tryd.ntmps7
  go_upto_region 1 with ((with_reducible refine gate_dst (N := 2) rfl ?_); refine box_event ?hg (N := 2) ?hd (cs := #[.slice none 0 0]) (t := 24) ?hr ?_; (case hd => rfl); (case hg => rfl); (case hr => first | (go_simp; done) | (go_simp; rfl)); intro br hg_ w1 hbox hb; have n0 := Aside0.mk (HP.out.new hg_ hbox hb); clear HP; have HP := n0; clear n0; clear hg_ hbox hb; have yr0 : w1.cell? ⟨br, 0, none⟩ = some (.slice none 0 0) := (blk_cell (HP.out.get 0 rfl) 0).trans rfl; have zr0 := blk_frozen (HP.out.get 0 rfl) 0)
  go_wp2_with fail
  refine bodyPost_ret (results_ctt rfl _ _ br 24 #[.slice none 0 0] (0, 0) _ rfl ((HP.out.put 0 rfl 0 (.slice none 0 0)).get 0 rfl) Tryd.underlying24 rfl (by kernel_rfl)) rfl ⟨rfl, (HP.out.put 0 rfl 0 (.slice none 0 0)).B⟩
def RrO (l : List S47) (w : World) (e : Ending) (w' : World) : Prop := ∃ A c, e = .returned (.tuple #[.agg #[.slice A l.length c], .int .i64 0, .int .i64 0]) ∧ Kd.C k47 w' A l.length l ∧ l.length ≤ c ∧ Below w.heap.size w w'
set_option maxHeartbeats 4000000 in
set_option maxRecDepth 100000 in
theorem rr_cons (k : Nat) (x : S47) (L' : List S47) (s : ByteArray) (w : World) (hs : s.data.toList = rtext (x :: L')) (hz : s.size ≤ 2000) (h0 : 0 < s.size) (h : lang_ruleFault.f k (x :: L') = some 0) (hok : ∀ t ∈ x :: L', OkT 12 t) (hl : (x :: L').length ≤ 6) :
    Calls Tryd.prog 7 #[.string s] w (RrO (x :: L') w) := by
  have hu24 := Tryd.underlying24
  have hu47 := Tryd.underlying47
  have hu22 := Tryd.underlying22
  have hu52 := Tryd.underlying52
  have H := Aside0.mk h
  have HK := Aside0.mk hok
  have HL := Aside0.mk hl
  have HZ := Aside0.mk hz
  have hA : At s 0 (tx 12 x ++ tls (tx 12) sSemi L') := ⟨by rw [List.drop_zero, hs]; exact join_tls (tx 12) sSemi x L', Nat.zero_le _, hz⟩
  have HA := Aside0.mk hA
  have HA1 := Aside0.mk hA.next
  have HP := Aside0.mk (Bs.nil w)
  have d1 : decide ((2000 : Int) < (s.size : Int)) = false := decide_eq_false (by omega)
  have d2 : decide (2000 < s.size) = false := decide_eq_false (by omega)
  have hne : s.toList ≠ [] := fun h_ => by rw [Lib.toList_data] at h_; have h1_ := size_tl s; rw [h_] at h1_; simp at h1_; omega
  have d3 : (s.toList == []) = false := beq_eq_false_iff_ne.2 hne
  have d4 : (s.toList == (⟨#[]⟩ : ByteArray).toList) = false := beq_eq_false_iff_ne.2 (fun h_ => hne (h_.trans (by rw [Lib.toList_data])))
  have d5 : s.toList.isEmpty = false := by cases hh : s.toList with | nil => exact absurd hh hne | cons _ _ => rfl
  have d6 : (s.toList = []) = False := eq_false hne
  clear h hok hl hz hs h0 hA hne
  go_enter Tryd.func7, Tryd.ntmps7
  go_upto_region 6 with (first | ((with_reducible refine gate_dst (N := 2) rfl ?_); refine box_event ?hg (N := 2) ?hd (cs := #[.slice none 0 0]) (t := 24) ?hr ?_; (case hd => rfl); (case hg => rfl); (case hr => first | (go_simp; done) | (go_simp; rfl)); intro br hg_ w1 hbox hb; have n0 := Aside0.mk (HP.out.new hg_ hbox hb); clear HP; have HP := n0; clear n0; clear hg_ hbox hb) | ((with_reducible refine gate_dst (N := 17) rfl ?_); refine box_event ?hg (N := 17) ?hd (cs := #[.string s, .int .i64 0, .int .i64 0, .bool false, .bool false]) (t := 52) ?hr ?_; (case hd => rfl); (case hg => rfl); (case hr => first | (go_simp; done) | (go_simp; rfl)); intro g hg_ w2 hbox hb; have n0 := Aside0.mk (HP.out.new hg_ hbox hb); clear HP; have HP := n0; clear n0; clear hg_ hbox hb))
  clear d1 d2 d3 d4 d5 d6
  have LG := Aside0.mk (HP.out.lt 0 rfl)
  have GW := Aside0.mk (HP.out.low 0 rfl)
  have RG := Aside0.mk (show br < g from HP.out.nd 0 1 _ _ (by omega) rfl rfl)
  have HF0 := Aside0.mk (fol_semi (tx 12) L')
  have HF0N := Aside0.mk (no_semi (tx 12) L')
  go_upto_region 7 with (first | (go_at_call 16; refine (form_calls 11 x (HK.out x (by simp)) 0 _ s 0 w _ g HA.out HF0.out HF0N.out.1 HF0N.out.2 rfl ⟨HP.out.get 0 rfl, GW.out, HP.out.B⟩).mono ?_; rintro e w3 ⟨A1, c1, rfl, hx_, q1, hq_, hr_, hg_⟩; have HX := Aside0.mk hx_; have HQ := Aside0.mk hq_; have n0 := Aside0.mk (HP.out.mv 0 rfl hg_ hr_.S); clear HP; have HP := n0; clear n0; clear hx_ hq_ hr_ hg_) | ((with_reducible refine gate_dst (N := 20) rfl ?_); refine Kd.N_lit k47 (w0 := w3) w.heap.size 47 ?hg (N' := 20) ?hd (xs := [x]) (inner := [.int .i64 x.f0, .int .i64 x.f1, .int .i64 x.f2, .int .i64 x.f3, .slice A1 x.f4.length c1]) (ok := fun k => g < k ∧ True) (okp := fun k => w2.heap.size ≤ k) ?hr (Reps.c5 (k47_mkF _ _ x HX.out.2 HX.out.1) (Reps.none _ _)) (fun k hk => ⟨Nat.lt_of_lt_of_le LG.out hk, trivial⟩) ⟨HP.out.lt 0 rfl, trivial⟩ (Below.refl _ _) HP.out.size (by simp) ?_; (case hd => rfl); (case hg => rfl); (case hr => first | (go_simp; done) | (go_simp; rfl)); intro v1 w4 hn_ hb_ hg_ hat_; obtain ⟨Av, cv, hv_⟩ := Kd.N_slice hn_; subst hv_; have n0 := Aside0.mk (HP.out.grown hg_ (HP.out.B.grown hg_ HP.out.size (fun k e => by cases e)) (fun i p hp h_ => by cases h_)); have HN := Aside0.mk hn_; clear HP hn_ hb_ hg_ hat_; have HP := n0; clear n0) | ((with_reducible refine gate_dst (N := 6) rfl ?_); refine box_event ?hg (N := 6) ?hd (cs := #[.slice none 0 0]) (t := 24) ?hr ?_; (case hd => rfl); (case hg => rfl); (case hr => first | (go_simp; done) | (go_simp; rfl)); intro bo hg_ w5 hbox hb; have n0 := Aside0.mk (HP.out.new hg_ hbox hb); have n1 := Aside0.mk (Kd.N_mono (ok' := fun k => g < k ∧ k ≠ bo) (Kd.N_below (Kd.N_bound HN.out) hb) (fun k hk => ⟨hk.1.1, by have := hk.2; omega⟩)); have n2 := Aside0.mk ((show g < bo by rw [hg_]; exact HP.out.lt 0 rfl)); clear HP HN; have HP := n0; have HN := n1; have LO := n2; clear n0 n1 n2; clear hg_ hbox hb; have yo0 : w5.cell? ⟨bo, 0, none⟩ = some (.slice none 0 0) := (blk_cell (HP.out.get 0 rfl) 0).trans rfl; have zo0 := blk_frozen (HP.out.get 0 rfl) 0))
  have n0 := Aside0.mk (Kd.N_far HN.out (p := ⟨bo, 0, none⟩) (fun k hk => hk.2) (.slice Av ([x] : List S47).length cv))
  have n1 := Aside0.mk (HP.out.put 0 rfl 0 (.slice Av ([x] : List S47).length cv))
  clear HN HP
  have HN := n0
  have HP := n1
  clear n0 n1
  clear yo0 zo0 HX
  generalize (w5.setCell ⟨bo, 0, none⟩ _) = w6 at HP HN ⊢
  have TOT := Aside0.mk (show (0 : Nat) + (tx 12 x).length = 0 + (tx 12 x).length from rfl)
  have HQ0 : Aside0 (q1 = ((0 + (tx 12 x).length : Nat) : Int)) := HQ
  go_loopg [23] L'.length (fun kq v23 w' => ∃ (vb : Value) (q1 : Int) (m1 : Nat) (done todo : List S47) (Av : Option Addr) (cv : Nat), v23 = vb ∧ Aside0 (q1 = (m1 : Int)) ∧ Aside0 (todo.length = kq) ∧ Aside0 (done ++ todo = x :: L') ∧ Aside0 (At s m1 (tls (tx 12) sSemi todo)) ∧ Aside0 (Kd.N k47 47 w' w.heap.size (fun k => g < k ∧ k ≠ bo) (.slice Av done.length cv) done) ∧ Aside0 (Bs w w' [(bo, #[.slice Av done.length cv], 24), (g, #[.string s, .int .i64 q1, .int .i64 0, .bool false, .bool false], 52), (br, #[.slice none 0 0], 24)]))
  case atStart => exact ⟨_, q1, 0 + (tx 12 x).length, [x], L', Av, cv, rfl, HQ, ⟨rfl⟩, ⟨rfl⟩, HA1, HN, HP⟩
  case round =>
    clear HP HN HQ HQ0 HA1 HA HF0 HF0N TOT
    obtain ⟨vb, q0, m0, done, todo, Av, cv, rfl, HQ0, HTL, HDT, HA, HN, HP⟩ := hrel
    have HLD := Aside0.mk (show done.length ≤ 6 by have h1_ := congrArg List.length HDT.out; rw [List.length_append] at h1_; have h2_ := HL.out; omega)
    cases todo with
    | nil =>
      have hd := HDT.out
      rw [List.append_nil] at hd
      clear HDT
      have HEN := Aside0.mk (show s.size = m0 by have h_ := HA.out.len; rw [tls, List.length_nil] at h_; omega)
      have d1 : decide (q0 < (s.size : Int)) = false := decide_eq_false (by have := HEN.out; have := HQ0.out; omega)
      have HD := Aside0.mk hd
      clear hd
      go_upto_region 11 with (go_at_call 17; refine (is_calls ⟨#[59]⟩ m0 false HA.out rfl HQ0.out (w0 := w) (g := g) ⟨HP.out.get 1 rfl, GW.out, HP.out.B⟩).mono ?_; rintro e w7 ⟨rfl, hr_, hg_⟩; have n0 := Aside0.mk (HP.out.mv 1 rfl hg_ hr_.S); have n1 := Aside0.mk (Kd.N_grown HN.out hg_ (fun k hk he => by injection he with he; have := hk.1; omega)); clear HP HN; have HP := n0; have HN := n1; clear n0 n1; clear hr_ hg_)
      have yg1 : w7.cell? ⟨g, 1, none⟩ = some (.int .i64 q0) := (blk_cell (HP.out.get 1 rfl) 1).trans rfl
      have yg3 : w7.cell? ⟨g, 3, none⟩ = some (.bool false) := (blk_cell (HP.out.get 1 rfl) 3).trans rfl
      have yo0 : w7.cell? ⟨bo, 0, none⟩ = some (.slice Av done.length cv) := (blk_cell (HP.out.get 0 rfl) 0).trans rfl
      go_wp2_with (go_at_call 13; refine (lang_ruleFault.calls k Av cv done 0 _ (Kd.N_reads' HN.out).2.2 (Kd.N_reads' HN.out).2.1 (by rw [HD.out]; exact H.out)).mono ?_; rintro e w8 ⟨rfl, hb⟩; have n0 := Aside0.mk (HP.out.below hb); have n1 := Aside0.mk (Kd.N_below HN.out hb); clear HP HN; have HP := n0; have HN := n1; clear n0 n1; clear hb; have yh4 : w8.cell? ⟨g, 4, none⟩ = some (.bool false) := (blk_cell (HP.out.get 1 rfl) 4).trans rfl; have yp0 : w8.cell? ⟨bo, 0, none⟩ = some (.slice Av done.length cv) := (blk_cell (HP.out.get 0 rfl) 0).trans rfl; have yr0 : w8.cell? ⟨br, 0, none⟩ = some (.slice none 0 0) := (blk_cell (HP.out.get 2 rfl) 0).trans rfl; have zr0 := blk_frozen (HP.out.get 2 rfl) 0)
      refine bodyPost_ret (results_ctt rfl _ _ br 24 #[.slice Av done.length cv] (0, 0) _ rfl ((HP.out.put 2 rfl 0 (.slice Av done.length cv)).get 2 rfl) Tryd.underlying24 rfl (by kernel_rfl)) rfl ?_
      rw [← HD.out]
      have hh := Kd.N_reads' (Kd.N_far HN.out (p := ⟨br, 0, none⟩) (fun k hk => by have h1_ := hk.1; have h2_ := RG.out; show k ≠ br; omega) (.slice Av done.length cv))
      exact ⟨Av, cv, rfl, hh.2.2, hh.2.1, (HP.out.put 2 rfl 0 (.slice Av done.length cv)).B⟩
    | cons y todo =>
      have HDT2 := Aside0.mk (show (done ++ [y]) ++ todo = x :: L' by rw [List.append_assoc]; exact HDT.out)
      have HYM := Aside0.mk (show y ∈ x :: L' by rw [← HDT.out]; simp)
      have HA2 := Aside0.mk (show At s m0 ((⟨#[59, 32]⟩ : ByteArray).data.toList ++ (tx 12 y ++ tls (tx 12) sSemi todo)) by have h_ := HA.out; rw [tls] at h_; exact h_)
      have HA3 := Aside0.mk HA2.out.next
      have HA4 := Aside0.mk HA3.out.next
      clear HA HDT
      have HF2 := Aside0.mk (fol_semi (tx 12) todo)
      have HF2N := Aside0.mk (no_semi (tx 12) todo)
      go_upto_region 8 with (go_at_call 17; refine (is_calls ⟨#[59]⟩ m0 true HA2.out rfl HQ0.out (w0 := w) (g := g) ⟨HP.out.get 1 rfl, GW.out, HP.out.B⟩).mono ?_; rintro e w7 ⟨rfl, hr_, hg_⟩; have n0 := Aside0.mk (HP.out.mv 1 rfl hg_ hr_.S); have n1 := Aside0.mk (Kd.N_grown HN.out hg_ (fun k hk he => by injection he with he; have := hk.1; omega)); clear HP HN; have HP := n0; have HN := n1; clear n0 n1; clear hr_ hg_)
      go_upto_region 9 with (go_at_call 18; refine (take_calls ⟨#[59, 32]⟩ m0 (by decide) HA2.out HQ0.out (w0 := w) (g := g) ⟨HP.out.get 1 rfl, GW.out, HP.out.B⟩).mono ?_; rintro e w8 ⟨rfl, q2, hq_, hr_, hg_⟩; have n0 := Aside0.mk (HP.out.mv 1 rfl hg_ hr_.S); have n1 := Aside0.mk (Kd.N_grown HN.out hg_ (fun k hk he => by injection he with he; have := hk.1; omega)); clear HP HN; have HP := n0; have HN := n1; clear n0 n1; clear hr_ hg_; have Hq2 := Aside0.mk hq_; clear hq_)
      have yg3 : w8.cell? ⟨g, 3, none⟩ = some (.bool false) := (blk_cell (HP.out.get 1 rfl) 3).trans rfl
      go_upto_region 10 with (fail)
      clear yg3
      have LNB := Aside0.mk (show ∀ k, (Value.slice Av done.length cv).ownBlock = some k → k < w8.heap.size from Kd.N_lt HN.out)
      have LG9 := Aside0.mk (show g < w8.heap.size from HP.out.lt 1 rfl)
      have LO9 := Aside0.mk (show bo < w8.heap.size from HP.out.lt 0 rfl)
      have LNB2 := LNB
      have hz9 : w8.drew.heap.size = w8.heap.size := rfl
      have n0 := Aside0.mk (HP.out.below (below_drew (Below.refl _ w8)))
      have n1 := Aside0.mk (Kd.N_drew HN.out)
      have n2 := Aside0.mk (show ∀ k, (Value.slice Av done.length cv).ownBlock = some k → k < w8.drew.heap.size from LNB2.out)
      have n3 := Aside0.mk (show g < w8.drew.heap.size from LG9.out)
      have n4 := Aside0.mk (show bo < w8.drew.heap.size from LO9.out)
      clear HP HN LNB LG9 LO9
      have HP := n0
      have HN := n1
      have LNB := n2
      have LG9 := n3
      have LO9 := n4
      clear n0 n1 n2 n3 n4
      refine start_ (n := 8) (S := fun w' => w'.cell? ⟨bo, 0, none⟩ = some (.slice Av done.length cv)) (ds := [7]) #[false, false, false, false, false, false, false, false] (by kernel_rfl) rfl rfl ((blk_cell (HP.out.get 0 rfl) 0).trans rfl) (fun hHeld => ?_)
      generalize w8.drew = w9 at HP HN LNB LG9 LO9 hHeld ⊢
      refine pure_ (i := 0) (N := some 31) (v := ?_) (a' := ?_) #[true, false, false, false, false, false, false, false] rfl rfl (by kernel_rfl) (fun _ _ _ h => h) (Or.inl ⟨by rfl, ?_⟩) ?_ ?_
      rotate_left
      · intro w'
        go_simp
        with_reducible rfl
      rotate_left
      · simp only [Act.put, List.setIfInBounds_toArray, List.set_cons_zero, List.set_cons_succ, i64_w, i32_w]
        rfl
      refine pure_ (i := 2) (N := some 33) (v := ?_) (a' := ?_) #[true, false, true, false, false, false, false, false] rfl rfl (by kernel_rfl) (fun _ _ _ h => h) (Or.inl ⟨by rfl, ?_⟩) ?_ ?_
      rotate_left
      · intro w'
        go_simp
        with_reducible rfl
      rotate_left
      · simp only [Act.put, List.setIfInBounds_toArray, List.set_cons_zero, List.set_cons_succ, i64_w, i32_w]
        rfl
      refine take_ (i := 1) (N := some 32) (v := ?_) (a' := ?_) #[true, true, true, false, false, false, false, false] rfl rfl (by kernel_rfl) (fun _ _ _ h => h) (Or.inl ⟨by rfl, ?_⟩) hHeld ?_ ?_
      rotate_left
      · intro w' s0
        go_simp
        with_reducible rfl
      rotate_left
      · simp only [Act.put, List.setIfInBounds_toArray, List.set_cons_zero, List.set_cons_succ, i64_w, i32_w]
        rfl
      refine one_ (i := 3) (N := some 34) #[true, true, true, true, false, false, false, false] rfl rfl (by kernel_rfl) (by decide) (fun K hK => ?_)
      refine goes_ Tryd.func16 (by kernel_rfl) rfl #[.pointer (some ⟨g, 0, none⟩)] (by rfl) rfl rfl (by simp only [List.map_toArray, List.map_cons, List.map_nil]; rfl) ?_
      with_reducible refine (form_calls 11 y (HK.out y HYM.out) (m0 + 2) _ s _ w _ g HA3.out HF2.out HF2N.out.1 HF2N.out.2 Hq2.out ⟨HP.out.get 1 rfl, GW.out, HP.out.B⟩).mono ?_
      rintro e y1 ⟨A1, c1, rfl, hx_, q1, hq_, hr_, hg_⟩
      refine ⟨_, rfl, ?_⟩
      have HX := Aside0.mk hx_
      have HQ := Aside0.mk hq_
      have n0 := Aside0.mk (HP.out.mv 1 rfl hg_ hr_.S)
      have n1 := Aside0.mk (Kd.N_grown HN.out hg_ (fun k hk he => by injection he with he; have := hk.1; omega))
      clear HP HN
      have HP := n0
      have HN := n1
      clear n0 n1
      clear hx_ hq_ hr_ hg_
      refine hK.out _ _ ((blk_cell (HP.out.get 0 rfl) 0).trans rfl) (fun hHeld => ?_)
      clear hK K
      refine norm_ (a' := ?_) ?_ ?_
      rotate_left
      · show Act.put _ (some 34) _ = _
        simp only [Act.put, List.setIfInBounds_toArray, List.set_cons_zero, List.set_cons_succ, i64_w, i32_w]
        rfl
      refine one_ (i := 4) (N := some 35) #[true, true, true, true, true, false, false, false] rfl rfl (by kernel_rfl) (by decide) (fun K hK => ?_)
      refine value_ (w1 := ?_) (v := ?_) (by rfl) rfl ?_ ?_
      rotate_left 2
      · go_simp
        constructor
        · rfl
        · rfl
      refine hK.out _ _ ((blk_cell (blk_alloc (HP.out.get 0 rfl) _) 0).trans rfl) (fun hHeld => ?_)
      clear hK K
      refine norm_ (a' := ?_) ?_ ?_
      rotate_left
      · show Act.put _ (some 35) _ = _
        simp only [Act.put, List.setIfInBounds_toArray, List.set_cons_zero, List.set_cons_succ, i64_w, i32_w]
        rfl
      refine one_ (i := 5) (N := some 36) #[true, true, true, true, true, true, false, false] rfl rfl (by kernel_rfl) (by decide) (fun K hK => ?_)
      refine Kd.N_append_step k47 (w0 := y1) w.heap.size (by rfl) (.tmp 32) (.tmp 35) 22 47 (.agg #[.int .i64 0, .int .i64 0, .int .i64 0, .int .i64 0, .slice none 0 0]) 56 rfl Tryd.underlying22 info47o rfl (by decide) (by omega) (.slice Av done.length cv) done y [.int .i64 y.f0, .int .i64 y.f1, .int .i64 y.f2, .int .i64 y.f3, .slice A1 y.f4.length c1] (fun k => g < k ∧ k ≠ bo) _ rfl (by rfl) (k47_mkF _ _ y HX.out.2 HX.out.1) (fun k hk => ⟨⟨Nat.lt_of_lt_of_le LG9.out hk, fun he => by have h1_ := hk; have h2_ := LO9.out; omega⟩, fun he => by have h1_ := hk; have h2_ := LNB.out k he.symm; omega⟩) (fun k hk => ⟨Nat.lt_of_lt_of_le (HP.out.lt 1 rfl) hk, fun he => by have h1_ := HP.out.lt 0 rfl; omega⟩) HN.out (Below.refl _ _) HP.out.size (by have := HLD.out; omega) ?_
      intro v1 y3 ho hb9 hg hat
      generalize hdn : done ++ [y] = dn at ho
      have HDN := Aside0.mk hdn
      clear hdn
      obtain ⟨A7, c7, hv7⟩ := Kd.N_slice ho
      subst hv7
      have n0 := Aside0.mk (HP.out.grown hg (HP.out.B.grown hg HP.out.size (fun k e => Kd.N_base HN.out k e)) (HP.out.apartN HN.out rfl))
      clear HP
      have HP := n0
      clear n0
      clear HN
      have HN := Aside0.mk ho
      clear ho hb9 hg hat
      refine hK.out _ _ ((blk_cell (HP.out.get 0 rfl) 0).trans rfl) (fun hHeld => ?_)
      clear hK K
      refine norm_ (a' := ?_) ?_ ?_
      rotate_left
      · show Act.put _ (some 36) _ = _
        simp only [Act.put, List.setIfInBounds_toArray, List.set_cons_zero, List.set_cons_succ, i64_w, i32_w]
        rfl
      refine pure_ (i := 6) (N := some 37) (v := ?_) (a' := ?_) #[true, true, true, true, true, true, true, false] rfl rfl (by kernel_rfl) (fun _ _ _ h => h) (Or.inl ⟨by rfl, ?_⟩) ?_ ?_
      rotate_left
      · intro w'
        go_simp
        with_reducible rfl
      rotate_left
      · simp only [Act.put, List.setIfInBounds_toArray, List.set_cons_zero, List.set_cons_succ, i64_w, i32_w]
        rfl
      refine last_ (i := 7) (N := none) #[true, true, true, true, true, true, true, true] rfl rfl (by kernel_rfl) (by decide) (fun K hK => ?_)
      have yo0 : y3.cell? ⟨bo, 0, none⟩ = some (.slice Av done.length cv) := (blk_cell (HP.out.get 0 rfl) 0).trans rfl
      have zo0 := blk_frozen (HP.out.get 0 rfl) 0
      refine skip_ (w1 := ?_) (by rfl) rfl ?_ ?_
      rotate_left
      · go_simp
        rfl
      clear yo0 zo0
      have n0 := Aside0.mk (HP.out.put 0 rfl 0 (.slice A7 dn.length c7))
      have n1 := Aside0.mk (Kd.N_far HN.out (p := ⟨bo, 0, none⟩) (fun k hk => hk.2) (.slice A7 dn.length c7))
      clear HP HN
      have HP := n0
      have HN := n1
      clear n0 n1
      generalize y3.setCell ⟨bo, 0, none⟩ (.slice A7 dn.length c7) = y4 at HP HN ⊢
      refine hK.out _ _ ?_
      clear hK K
      refine done_ (by kernel_rfl) ?_
      go_wp2_with fail
      go_roundg todo.length
      case measure => have := HTL.out; simp only [List.length_cons] at this; omega
      case rel => exact ⟨_, q1, m0 + 2 + (tx 12 y).length, dn, todo, A7, c7, rfl, HQ, ⟨rfl⟩, ⟨by rw [← HDN.out]; exact HDT2.out⟩, HA4, HN, HP⟩
end Go.Proofs.YtilmjckpphlniaaDoor.PRuleRound
