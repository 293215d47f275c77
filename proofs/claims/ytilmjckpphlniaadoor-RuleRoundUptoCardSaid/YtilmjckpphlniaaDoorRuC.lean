/- For the law RuleRound: testText, walked. No condition. -/
import Derived.Test.YtilmjckpphlniaaDoorRuT
namespace Go.Proofs.YtilmjckpphlniaaDoor.PRuleRound
open Go.RowKit Go.Proofs.YtilmjckpphlniaaDoorW.PrintWords Go.Proofs.YtilmjckpphlniaaDoorW.PrintLast Go.Proofs.YtilmjckpphlniaaDoorW.PrintMore
set_option linter.unusedVariables false
set_option linter.unusedSimpArgs false

def TXC (n : Nat) : Prop := ∀ (t : S47) (A : Option Addr) (c : Nat) (B : Nat) (w : World), PT B w → OkT n t → Kd.C k47 w A t.f4.length t.f4 → t.f4.length ≤ c → Calls Tryd.prog 14 #[.agg #[.int .i64 t.f0, .int .i64 t.f1, .int .i64 t.f2, .int .i64 t.f3, .slice A t.f4.length c]] w fun e w' => e = .returned (.string (sb (tx n t))) ∧ Below w.heap.size w w'
theorem rd47_get {l : List S47} {i : Nat} (h : i < l.length) : rd_T47 l (i : Int) = l[i] := by
  unfold rd_T47
  rw [Int.toNat_natCast, List.getD_eq_getElem?_getD, List.getElem?_eq_getElem h]; rfl
theorem rd47_take {l : List S47} {i : Nat} (h : i < l.length) : l.take (i + 1) = l.take i ++ [rd_T47 l (i : Int)] := by
  rw [rd47_get h, List.take_succ_eq_append_getElem h]
theorem rowo {W : World} {base g : Nat} {cv : Value} {xs : List ByteArray} (h : Kd.R Kd.string 9 W base (fun _ => True) cv xs) (hn : some g ≠ cv.ownBlock) : Kd.R Kd.string 9 W base (fun k => k ≠ g) cv xs :=
  ⟨fun k hk he => hn (by rw [← he]; exact hk.symm), h.2⟩
theorem sb_br (l : List UInt8) : (⟨#[40]⟩ ++ sb l ++ ⟨#[41]⟩ : ByteArray) = sb ([40] ++ l ++ [41]) := by
  apply ByteArray.ext
  simp [ByteArray.data_append]
theorem Bs.apart {w W : World} {l : List (Nat × Array Value × Nat)} {base : Nat} {ok : Nat → Prop} {v : Value} {xs : List ByteArray} (h : Bs w W l) (ho : Kd.R Kd.string 9 W base ok v xs) (ht : l.all (fun p => p.2.2 != 9) = true) : ∀ (i : Nat) (p : Nat × Array Value × Nat), l[i]? = some p → some p.1 ≠ v.ownBlock := fun i p hp =>
  Kd.R_ne ho (h.blk i p hp) (fun he => by
    have := List.all_eq_true.1 ht p (List.mem_of_getElem? hp)
    rw [bne_iff_ne] at this
    exact this he.symm)
set_option maxHeartbeats 4000000 in
set_option maxRecDepth 100000 in
theorem clo_calls (n : Nat) (hn : n ≤ 11) (ih : TXC n) (t : S47) (A : Option Addr) (c : Nat) (bt : Nat) (sg : ByteArray) (B : Nat) (w : World) (hp : PT B w) (hb : w.heap[bt]? = some (.cells #[.int .i64 t.f0, .int .i64 t.f1, .int .i64 t.f2, .int .i64 t.f3, .slice A t.f4.length c] 47 (0, 0))) (hk : ∀ k ∈ t.f4, OkT n k) (hl : t.f4.length ≤ 20) (h3 : t.f0 = 3 → ∀ k ∈ t.f4, k.f0 ≠ 3) (hs : sg.data.toList.length ≤ 3) (hr : Kd.C k47 w A t.f4.length t.f4) (hc : t.f4.length ≤ c) :
    Calls Tryd.prog 28 #[.string sg, .pointer (some ⟨bt, 0, none⟩)] w fun e w' => e = .returned (.string (sb (Lib.join (t.f4.map (kb (tx n))) sg.data.toList))) ∧ Below w.heap.size w w' := by
  have hu47 := Tryd.underlying47
  have HT := Aside0.mk hp
  have HB0 := Aside0.mk hb
  have HK := Aside0.mk hk
  have HL := Aside0.mk hl
  have H3 := Aside0.mk h3
  have HS := Aside0.mk hs
  have HR := Aside0.mk hr
  have HC := Aside0.mk hc
  have IH := Aside0.mk ih
  have HP := Aside0.mk (Bs.nil w)
  have HO := Aside0.mk (Kd.R_nil Kd.string 9 w w.heap.size (fun _ => True))
  have y4 : w.cell? ⟨bt, 4, none⟩ = some (.slice A t.f4.length c) := (blk_cell HB0.out 4).trans rfl
  clear hp hb hk hl h3 hs hr hc ih
  go_enter Tryd.func28, Tryd.ntmps28
  go_upto_region 3 with (fail)
  clear y4
  go_loopg [4, 11] t.f4.length (fun kq v4 v11 w' => ∃ (ii : Int) (i : Nat) (vO : Value), vO = v4 ∧ v11 = .int .i64 ii ∧ Aside0 (ii = (i : Int)) ∧ Aside0 (i + kq = t.f4.length) ∧ Aside0 (Kd.R Kd.string 9 w' w.heap.size (fun _ => True) vO ((t.f4.take i).map (fun k => sb (kb (tx n) k)))) ∧ Aside0 (Bs w w' []))
  case atStart => exact ⟨0, 0, _, rfl, rfl, ⟨rfl⟩, ⟨by omega⟩, HO, HP⟩
  case round =>
    clear HP HO
    obtain ⟨ii, i, vO, rfl, rfl, HII, HI, HO, HP⟩ := hrel
    cases gk with
    | zero =>
      have e0 : decide (ii < (t.f4.length : Int)) = false := decide_eq_false (by have := HII.out; have := HI.out; omega)
      have hO := HO.out
      rw [List.take_of_length_le (by have := HI.out; omega)] at hO
      clear HO
      have HO := Aside0.mk hO
      clear hO
      have EQ := Aside0.mk (show (t.f4.map (fun k => sb (kb (tx n) k))).map (·.data.toList) = t.f4.map (kb (tx n)) by rw [List.map_map]; exact List.map_congr_left (fun k _ => rfl))
      have LN := Aside0.mk (show (t.f4.map (fun k => sb (kb (tx n) k))).length ≤ 20 by rw [List.length_map]; exact HL.out)
      have LJ := Aside0.mk (kids_len (n := n) (t := t) (sep := sg.data.toList) HS.out (fun k hk => tx_len n k (HK.out k hk)) HL.out)
      have TS := Aside0.mk (tl_small (n := n) (by omega))
      generalize t.f4.map (fun k => sb (kb (tx n) k)) = outs at HO EQ LN
      obtain ⟨Av, cv, hv⟩ := Kd.R_slice HO.out
      subst hv
      go_wp2_with (go_at_call 15; (with_reducible refine (join_calls (.slice Av outs.length cv) w.heap.size (fun _ => True) outs sg _ HO.out (by have := LN.out; omega) (by rw [EQ.out]; have := LJ.out; have := TS.out; omega)).mono ?_); rintro e w2 ⟨he, hb⟩; rw [EQ.out] at he; subst he; have n0 := Aside0.mk (HP.out.below hb); clear HP; have HP := n0; clear n0; clear hb)
      go_ret
      exact ⟨rfl, HP.out.B⟩
    | succ k1 =>
      have p0 : 0 ≤ ii := by have := HII.out; omega
      have p1 : ii < (t.f4.length : Int) := by have := HII.out; have := HI.out; omega
      have e3 : decide (ii < (t.f4.length : Int)) = true := decide_eq_true p1
      have e4 : decide (0 ≤ ii) = true := decide_eq_true p0
      obtain ⟨ad, B4, d4, e_, x0, x1, x2, x3, x4, hrd⟩ := at_F47 (Kd.C_F k47_heap HR.out) ii p0 p1
      cases e_
      have HTK := Aside0.mk (show t.f4.take (i + 1) = t.f4.take i ++ [rd_T47 t.f4 ii] by rw [HII.out]; exact rd47_take (by have := HI.out; omega))
      obtain ⟨k, hkk⟩ : ∃ k, k = rd_T47 t.f4 ii := ⟨_, rfl⟩
      rw [← hkk] at x0 x1 x2 x3 x4 hrd HTK
      have HMK := Aside0.mk (show k ∈ t.f4 by rw [hkk, HII.out, rd47_get (by have := HI.out; omega)]; exact List.getElem_mem _)
      clear hkk
      have RD := Aside0.mk hrd
      clear hrd
      replace x0 := (HP.out.B.cell (World.block_lt_of_cell? w _ x0)).trans x0
      replace x1 := (HP.out.B.cell (World.block_lt_of_cell? w _ x1)).trans x1
      replace x2 := (HP.out.B.cell (World.block_lt_of_cell? w _ x2)).trans x2
      replace x3 := (HP.out.B.cell (World.block_lt_of_cell? w _ x3)).trans x3
      replace x4 := (HP.out.B.cell (World.block_lt_of_cell? w _ x4)).trans x4
      replace p0 := eq_true p0
      replace p1 := eq_true p1
      have LW := Aside0.mk HP.out.size
      go_upto_region 5 with ((with_reducible refine gate_dst (N := 6) rfl ?_); refine box_event ?hg (N := 6) ?hd (cs := #[.int .i64 0, .int .i64 0, .int .i64 0, .int .i64 0, .slice none 0 0]) (t := 47) ?hr ?_; (case hd => rfl); (case hg => rfl); (case hr => first | (go_simp; done) | (go_simp; rfl)); intro bk hg_ W1 hbox hb; have n0 := Aside0.mk (HP.out.new hg_ hbox hb); have n1 := Aside0.mk (Kd.R_below HO.out hb); have n2 := Aside0.mk ((show w.heap.size ≤ bk by rw [hg_]; exact LW.out)); clear HP HO; have HP := n0; have HO := n1; have HGE := n2; clear n0 n1 n2; clear hg_ hbox hb; have yz0 : W1.cell? ⟨bk, 0, none⟩ = some (.int .i64 0) := (blk_cell (HP.out.get 0 rfl) 0).trans rfl; have yz1 : W1.cell? ⟨bk, 1, none⟩ = some (.int .i64 0) := (blk_cell (HP.out.get 0 rfl) 1).trans rfl; have yz2 : W1.cell? ⟨bk, 2, none⟩ = some (.int .i64 0) := (blk_cell (HP.out.get 0 rfl) 2).trans rfl; have yz3 : W1.cell? ⟨bk, 3, none⟩ = some (.int .i64 0) := (blk_cell (HP.out.get 0 rfl) 3).trans rfl; have yz4 : W1.cell? ⟨bk, 4, none⟩ = some (.slice none 0 0) := (blk_cell (HP.out.get 0 rfl) 4).trans rfl; have zz0 := blk_frozen (HP.out.get 0 rfl) 0; have zz1 := blk_frozen (HP.out.get 0 rfl) 1; have zz2 := blk_frozen (HP.out.get 0 rfl) 2; have zz3 := blk_frozen (HP.out.get 0 rfl) 3; have zz4 := blk_frozen (HP.out.get 0 rfl) 4)
      have HRN := rowo HO.out (Kd.R_ne HO.out (HP.out.get 0 rfl) (by decide))
      have n0 := Aside0.mk (HP.out.five 0 rfl (.int .i64 k.f0) (.int .i64 k.f1) (.int .i64 k.f2) (.int .i64 k.f3) (.slice B4 k.f4.length d4))
      have n1 := Aside0.mk (show Kd.R Kd.string 9 (((((W1.setCell ⟨bk, 0, none⟩ (.int .i64 k.f0)).setCell ⟨bk, 1, none⟩ (.int .i64 k.f1)).setCell ⟨bk, 2, none⟩ (.int .i64 k.f2)).setCell ⟨bk, 3, none⟩ (.int .i64 k.f3)).setCell ⟨bk, 4, none⟩ (.slice B4 k.f4.length d4)) w.heap.size (fun _ => True) vO ((t.f4.take i).map (fun k => sb (kb (tx n) k))) from Kd.R_mono (Kd.R_far (Kd.R_far (Kd.R_far (Kd.R_far (Kd.R_far HRN (fun _ hk => hk) _) (fun _ hk => hk) _) (fun _ hk => hk) _) (fun _ hk => hk) _) (fun _ hk => hk) _) (fun _ _ => trivial))
      clear HP HO
      have HP := n0
      have HO := n1
      clear n0 n1
      clear HRN yz0 zz0 x0 yz1 zz1 x1 yz2 zz2 x2 yz3 zz3 x3 yz4 zz4 x4
      generalize (((((W1.setCell ⟨bk, 0, none⟩ (.int .i64 k.f0)).setCell ⟨bk, 1, none⟩ (.int .i64 k.f1)).setCell ⟨bk, 2, none⟩ (.int .i64 k.f2)).setCell ⟨bk, 3, none⟩ (.int .i64 k.f3)).setCell ⟨bk, 4, none⟩ (.slice B4 k.f4.length d4)) = W2 at HP HO ⊢
      have RD2 := Aside0.mk ((RD.out.below (HP.out.B)))
      clear RD
      have RD := RD2
      clear RD2
      have yk0 : W2.cell? ⟨bk, 0, none⟩ = some (.int .i64 k.f0) := (blk_cell (HP.out.get 0 rfl) 0).trans rfl
      have yk1 : W2.cell? ⟨bk, 1, none⟩ = some (.int .i64 k.f1) := (blk_cell (HP.out.get 0 rfl) 1).trans rfl
      have yk2 : W2.cell? ⟨bk, 2, none⟩ = some (.int .i64 k.f2) := (blk_cell (HP.out.get 0 rfl) 2).trans rfl
      have yk3 : W2.cell? ⟨bk, 3, none⟩ = some (.int .i64 k.f3) := (blk_cell (HP.out.get 0 rfl) 3).trans rfl
      have yk4 : W2.cell? ⟨bk, 4, none⟩ = some (.slice B4 k.f4.length d4) := (blk_cell (HP.out.get 0 rfl) 4).trans rfl
      have LK := Aside0.mk (tx_len n k (HK.out k HMK.out))
      have TS := Aside0.mk (tl_small (n := n) (by omega))
      obtain ⟨s, hs⟩ : ∃ s, s = sb (tx n k) := ⟨_, rfl⟩
      have HSE := Aside0.mk hs
      clear hs
      have HSS := Aside0.mk (show s.size ≤ 1000000000000 by rw [HSE.out]; have h1_ := LK.out; have h2_ := TS.out; simp [ByteArray.size]; omega)
      have z1 : (9223372036854775807 < 1 + s.size) = False := eq_false (by have := HSS.out; omega)
      have z2 : (9223372036854775807 < (⟨#[40]⟩ ++ s : ByteArray).size + 1) = False := eq_false (by have := HSS.out; simp [ByteArray.size_append]; have e1 : (⟨#[40]⟩ : ByteArray).size = 1 := rfl; omega)
      have z3 : (9223372036854775807 < (⟨#[40]⟩ : ByteArray).size + s.size) = False := eq_false (by have := HSS.out; show ¬ 9223372036854775807 < 1 + s.size; omega)
      have z4 : (9223372036854775807 < (⟨#[40]⟩ : ByteArray).size + s.size + 1) = False := eq_false (by have := HSS.out; show ¬ 9223372036854775807 < 1 + s.size + 1; omega)
      have z5 : (9223372036854775807 < 1 + s.size + 1) = False := eq_false (by have := HSS.out; omega)
      go_upto_region 6 with (go_at_call 14; refine (IH.out k B4 d4 B _ (HT.out.below HP.out.B) (HK.out k HMK.out) (Kd.F_now RD.out.1) RD.out.2).mono ?_; rintro e W3 ⟨he, hb⟩; rw [← HSE.out] at he; subst he; have n0 := Aside0.mk (HP.out.below hb); have n1 := Aside0.mk (Kd.R_below HO.out hb); clear HP HO; have HP := n0; have HO := n1; clear n0 n1; clear hb; have ym0 : W3.cell? ⟨bk, 0, none⟩ = some (.int .i64 k.f0) := (blk_cell (HP.out.get 0 rfl) 0).trans rfl; have y0 : W3.cell? ⟨bt, 0, none⟩ = some (.int .i64 t.f0) := (HP.out.B.cell (World.block_lt_of_cell? w _ ((blk_cell HB0.out 0).trans rfl))).trans ((blk_cell HB0.out 0).trans rfl))
      clear yk0 yk1 yk2 yk3 yk4
      have HX := Aside0.mk (show kb (tx n) k = if k.f0 = 3 then [40] ++ tx n k ++ [41] else tx n k from rfl)
      have HOL := Aside0.mk (show ((t.f4.take i).map (fun k => sb (kb (tx n) k))).length ≤ 1000000 by rw [List.length_map, List.length_take]; have := HL.out; omega)
      have HTM := Aside0.mk (show (t.f4.take (i + 1)).map (fun k => sb (kb (tx n) k)) = ((t.f4.take i).map (fun k => sb (kb (tx n) k))) ++ [sb (kb (tx n) k)] by rw [HTK.out, List.map_append]; rfl)
      generalize ((t.f4.take i).map (fun k => sb (kb (tx n) k))) = outs at HO HOL HTM
      by_cases c3 : k.f0 = 3
      · have d0 : (k.f0 == 3) = true := beq_iff_eq.2 c3
        have d1 : (k.f0 != 3) = false := bne_eq_false_iff_eq.2 c3
        have q3 := Aside0.mk c3
        by_cases c4 : t.f0 = 3
        · exact absurd c3 (H3.out c4 k HMK.out)
        have d2 : (t.f0 == 3) = false := beq_eq_false_iff_ne.2 c4
        have d3 : (t.f0 != 3) = true := bne_iff_ne.2 c4
        clear c3 c4
        have EX0 := Aside0.mk (show sb (kb (tx n) k) = (⟨#[40]⟩ ++ s ++ ⟨#[41]⟩) by rw [HX.out, if_pos q3.out, HSE.out]; exact (sb_br _).symm)
        go_upto_region 8 with (fail)
        generalize (⟨#[40]⟩ ++ s ++ ⟨#[41]⟩ : ByteArray) = s2 at EX0 ⊢
        have EX := Aside0.mk (show sb (kb (tx n) k) = s2 by exact EX0.out)
        obtain ⟨A6, c6, hv6⟩ := Kd.R_slice HO.out
        subst hv6
        go_wp2_with ((with_reducible refine gate_builtin (b := .append) (xs := #[.tmp 28, .tmp 30]) rfl ?_); (try (refine gate_guard (by rfl) ?_; dsimp only)); at_builtin; refine Kd.R_append Kd.string (w0 := W3) w.heap.size rfl (.tmp 28) (.tmp 30) 40 9 (.string ⟨#[]⟩) 16 rfl Tryd.underlying40 info9r rfl (by decide) (by omega) (.slice A6 outs.length c6) outs s2 [.string s2] (fun _ => True) (fun _ => False) rfl (by rfl) (show Kd.M Kd.string _ _ _ s2 [.string s2] from rfl) (fun _ h => h.elim) (fun _ _ => trivial) HO.out (Below.refl _ _) HP.out.size (by have := HOL.out; omega) ?_; intro v1 w9 ho hb9 hg hat; generalize houts : outs ++ [s2] = outs2 at ho; have HTK2 := Aside0.mk (HTM.out.trans (EX.out.symm ▸ houts)); clear houts; have n0 := Aside0.mk (HP.out.grown hg (HP.out.B.grown hg HP.out.size (fun k e => Kd.R_base HO.out k e)) (HP.out.apart HO.out rfl)); have n2 := Aside0.mk ho; clear HP HO ho hb9 hg hat; have HP := n0; have HO := n2; clear n0 n2)
        go_roundg k1
        case measure => omega
        case rel => exact ⟨_, i + 1, _, rfl, rfl, ⟨by have h2_ := HII.out; have h3_ := HI.out; have h4_ := HL.out; unfold wrap64; omega⟩, ⟨by have := HI.out; omega⟩, ⟨by rw [HTK2.out]; exact HO.out⟩, ⟨HP.out.tail⟩⟩
      · have d0 : (k.f0 == 3) = false := beq_eq_false_iff_ne.2 c3
        have d1 : (k.f0 != 3) = true := bne_iff_ne.2 c3
        have q3 := Aside0.mk c3
        clear c3
        have EX := Aside0.mk (show sb (kb (tx n) k) = s by rw [HX.out, if_neg q3.out, HSE.out])
        obtain ⟨A6, c6, hv6⟩ := Kd.R_slice HO.out
        subst hv6
        go_wp2_with ((with_reducible refine gate_builtin (b := .append) (xs := #[.tmp 28, .tmp 30]) rfl ?_); (try (refine gate_guard (by rfl) ?_; dsimp only)); at_builtin; refine Kd.R_append Kd.string (w0 := W3) w.heap.size rfl (.tmp 28) (.tmp 30) 40 9 (.string ⟨#[]⟩) 16 rfl Tryd.underlying40 info9r rfl (by decide) (by omega) (.slice A6 outs.length c6) outs s [.string s] (fun _ => True) (fun _ => False) rfl (by rfl) (show Kd.M Kd.string _ _ _ s [.string s] from rfl) (fun _ h => h.elim) (fun _ _ => trivial) HO.out (Below.refl _ _) HP.out.size (by have := HOL.out; omega) ?_; intro v1 w9 ho hb9 hg hat; generalize houts : outs ++ [s] = outs2 at ho; have HTK2 := Aside0.mk (HTM.out.trans (EX.out.symm ▸ houts)); clear houts; have n0 := Aside0.mk (HP.out.grown hg (HP.out.B.grown hg HP.out.size (fun k e => Kd.R_base HO.out k e)) (HP.out.apart HO.out rfl)); have n2 := Aside0.mk ho; clear HP HO ho hb9 hg hat; have HP := n0; have HO := n2; clear n0 n2)
        go_roundg k1
        case measure => omega
        case rel => exact ⟨_, i + 1, _, rfl, rfl, ⟨by have h2_ := HII.out; have h3_ := HI.out; have h4_ := HL.out; unfold wrap64; omega⟩, ⟨by have := HI.out; omega⟩, ⟨by rw [HTK2.out]; exact HO.out⟩, ⟨HP.out.tail⟩⟩
end Go.Proofs.YtilmjckpphlniaaDoor.PRuleRound
