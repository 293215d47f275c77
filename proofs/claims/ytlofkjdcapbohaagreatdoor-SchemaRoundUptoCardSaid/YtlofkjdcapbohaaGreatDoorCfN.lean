/- For the law SchemaRound: wrongNames, walked where no name is wrong. No condition. -/
import Derived.Test.YtlofkjdcapbohaaGreatDoorCfM
namespace Go.Proofs.YtlofkjdcapbohaaGreatDoor.PConfKeeps
open Go.RowKit Go.Proofs.YtlofkjdcapbohaaGreatDoorW.PrintWords Go.Proofs.YtlofkjdcapbohaaGreatDoorW.PrintLast Go.Proofs.YtlofkjdcapbohaaGreatDoorW.PrintMore
set_option linter.unusedVariables false
set_option linter.unusedSimpArgs false

def NmOk (key : ByteArray) (x : S25) : Prop := (fK key = -1 → key.toList = ([100, 101, 102, 97, 117, 108, 116] : List UInt8)) ∧ (key.toList = ([107, 105, 110, 100] : List UInt8) → ∃ n, kOf x.f3 = (n, true))
structure WN (v F : S25) (b2 : Bool) : Prop where
 ke : ∀ k ∈ v.f5, k.toList = ([102, 105, 101, 108, 100, 115] : List UInt8) ∨ k.toList = ([115, 116, 114, 105, 99, 116] : List UInt8)
 fl : cItem v ⟨#[102, 105, 101, 108, 100, 115]⟩ = some (F, b2)
 it : ∀ t ∈ F.f4, t.f5.length ≤ t.f4.length ∧ ∀ i : Nat, i < t.f5.length → NmOk (rdOf ByteArray.empty t.f5 (i : Int)) (rd_T25 t.f4 (i : Int))
set_option maxHeartbeats 4000000 in
set_option maxRecDepth 100000 in
theorem wrongNames_calls (v : S25) (A4 : Option Addr) (c4 : Nat) (A5 : Option Addr) (c5 : Nat) (F : S25) (b2 : Bool) (w : World) (hkn : KN w) (hv : Rd w v A4 c4 A5 c5) (h : WN v F b2) :
  Calls Tryz.prog 35 #[.agg #[.int .i64 v.f0, .bool v.f1, .int .i64 v.f2, .string v.f3, .slice A4 v.f4.length c4, .slice A5 v.f5.length c5]] w fun e w' => e = .returned (.bool false) ∧ Below w.heap.size w w' := by
 have hu25 := Tryz.underlying25
 have HKN := Aside0.mk hkn
 have HV := Aside0.mk hv.F
 have HP := Aside0.mk (Bs.nil w)
 obtain ⟨hke, hfl, hit⟩ := h
 have HKE := Aside0.mk hke
 have HFL := Aside0.mk hfl
 have HIT := Aside0.mk hit
 have HM0 := Aside0.mk hv.2.2.1.2.1
 clear hkn hv hke hfl hit
 go_enter Tryz.func35, Tryz.ntmps35
 go_upto_region 1 with (((with_reducible refine gate_dst (N := 1) rfl ?_); refine box_event ?hg (N := 1) ?hd (cs := #[.int .i64 v.f0, .bool v.f1, .int .i64 v.f2, .string v.f3, .slice A4 v.f4.length c4, .slice A5 v.f5.length c5]) (t := 25) ?hr ?_; (case hd => rfl); (case hg => rfl); (case hr => first | (go_simp; done) | (go_simp; rfl)); intro bv hg_ W0 hbox hb; have n0 := Aside0.mk (HP.out.new hg_ hbox hb); clear HP; have HP := n0; clear n0; clear hg_ hbox hb))
 have yv5 : W0.cell? ⟨bv, 5, none⟩ = some (.slice A5 v.f5.length c5) := HP.out.cl 0 5 rfl rfl
 skip
 go_wp2_with fail
 go_loopg [16] v.f5.length (fun kq v_ w' => ∃ (jj : Int) (j : Nat), v_ = .int .i64 jj ∧ Aside0 (jj = (j : Int)) ∧ Aside0 (j + kq = v.f5.length) ∧ Aside0 (Bs w w' [(bv, #[.int .i64 v.f0, .bool v.f1, .int .i64 v.f2, .string v.f3, .slice A4 v.f4.length c4, .slice A5 v.f5.length c5], 25)]))
 case atStart => exact ⟨0, 0, rfl, ⟨rfl⟩, ⟨by omega⟩, HP⟩
 case round =>
  clear HP yv5
  obtain ⟨jj, j, rfl, HIIj, HIj, HP⟩ := hrel
  cases gk with
  | succ kB =>
   have pb0 : 0 ≤ jj := by have := HIIj.out; omega
   have pb1 : jj < (v.f5.length : Int) := by have := HIIj.out; have := HIj.out; omega
   have qb0 : decide (jj < (v.f5.length : Int)) = true := decide_eq_true pb1
   have qb1 : decide (0 ≤ jj) = true := decide_eq_true pb0
   obtain ⟨ak, e_, y0⟩ := Kd.at_string (Kd.F_now HV.out.2.2.1) jj pb0 pb1
   cases e_
   have hk := HKE.out _ (rdOf_in pb0 pb1)
   generalize rdOf ByteArray.empty v.f5 jj = key at y0 hk
   replace pb0 := eq_true pb0
   replace pb1 := eq_true pb1
   replace y0 := (HP.out.B.cell (World.block_lt_of_cell? w _ y0)).trans y0
   by_cases c1 : key.toList = ([102, 105, 101, 108, 100, 115] : List UInt8)
   case pos =>
    clear hk
    have c1a : (key.toList == ([102, 105, 101, 108, 100, 115] : List UInt8)) = true := beq_iff_eq.2 c1
    have c1b : (key.toList != ([102, 105, 101, 108, 100, 115] : List UInt8)) = false := bne_eq_false_iff_eq.2 c1
    replace c1 := Aside0.mk c1
    go_wp2_with fail
    go_roundg kB
    case measure => omega
    case rel => exact ⟨_, j + 1, rfl, ⟨by have h1_ := HM0.out; have h2_ := HIIj.out; have h3_ := HIj.out; unfold wrap64; omega⟩, ⟨by have := HIj.out; omega⟩, HP⟩
   have c2 : key.toList = ([115, 116, 114, 105, 99, 116] : List UInt8) := hk.resolve_left c1
   clear hk
   have c1a : (key.toList == ([102, 105, 101, 108, 100, 115] : List UInt8)) = false := beq_eq_false_iff_ne.2 c1
   have c1b : (key.toList != ([102, 105, 101, 108, 100, 115] : List UInt8)) = true := bne_iff_ne.2 c1
   replace c1 := Aside0.mk c1
   have c2a : (key.toList == ([115, 116, 114, 105, 99, 116] : List UInt8)) = true := beq_iff_eq.2 c2
   have c2b : (key.toList != ([115, 116, 114, 105, 99, 116] : List UInt8)) = false := bne_eq_false_iff_eq.2 c2
   replace c2 := Aside0.mk c2
   go_wp2_with fail
   go_roundg kB
   case measure => omega
   case rel => exact ⟨_, j + 1, rfl, ⟨by have h1_ := HM0.out; have h2_ := HIIj.out; have h3_ := HIj.out; unfold wrap64; omega⟩, ⟨by have := HIj.out; omega⟩, HP⟩
  | zero =>
   have e0 : decide (jj < (v.f5.length : Int)) = false := decide_eq_false (by have := HIIj.out; have := HIj.out; omega)
   have yv0 : wr.cell? ⟨bv, 0, none⟩ = some (.int .i64 v.f0) := HP.out.cl 0 0 rfl rfl
   have yv1 : wr.cell? ⟨bv, 1, none⟩ = some (.bool v.f1) := HP.out.cl 0 1 rfl rfl
   have yv2 : wr.cell? ⟨bv, 2, none⟩ = some (.int .i64 v.f2) := HP.out.cl 0 2 rfl rfl
   have yv3 : wr.cell? ⟨bv, 3, none⟩ = some (.string v.f3) := HP.out.cl 0 3 rfl rfl
   have yv4 : wr.cell? ⟨bv, 4, none⟩ = some (.slice A4 v.f4.length c4) := HP.out.cl 0 4 rfl rfl
   have yv5 : wr.cell? ⟨bv, 5, none⟩ = some (.slice A5 v.f5.length c5) := HP.out.cl 0 5 rfl rfl
   go_upto_region 8 with (first | (go_at_call 36; refine (item_calls v A4 c4 A5 c5 ⟨#[102, 105, 101, 108, 100, 115]⟩ (F, b2) _ (fun k => k < w.heap.size) (HV.out.below HP.out.B) HFL.out).mono ?_; rintro e W4 ⟨E4, e4, E5, e5, rfl, hr, hb⟩; have n0 := Aside0.mk (HP.out.below hb); clear HP; have HP := n0; clear n0; clear hb; have HR := Aside0.mk (hr.back HP.out.B (fun k hk => hk)); clear hr) | ((with_reducible refine gate_dst (N := 5) rfl ?_); refine box_event ?hg (N := 5) ?hd (cs := #[.int .i64 0, .bool false, .int .i64 0, .string ⟨#[]⟩, .slice none 0 0, .slice none 0 0]) (t := 25) ?hr ?_; (case hd => rfl); (case hg => rfl); (case hr => first | (go_simp; done) | (go_simp; rfl)); intro bF hg_ W5 hbox hb; have n0 := Aside0.mk (HP.out.new hg_ hbox hb); clear HP; have HP := n0; clear n0; clear hg_ hbox hb; have yz0 : W5.cell? ⟨bF, 0, none⟩ = some (.int .i64 0) := HP.out.cl 0 0 rfl rfl; have yz1 : W5.cell? ⟨bF, 1, none⟩ = some (.bool false) := HP.out.cl 0 1 rfl rfl; have yz2 : W5.cell? ⟨bF, 2, none⟩ = some (.int .i64 0) := HP.out.cl 0 2 rfl rfl; have yz3 : W5.cell? ⟨bF, 3, none⟩ = some (.string ⟨#[]⟩) := HP.out.cl 0 3 rfl rfl; have yz4 : W5.cell? ⟨bF, 4, none⟩ = some (.slice none 0 0) := HP.out.cl 0 4 rfl rfl; have yz5 : W5.cell? ⟨bF, 5, none⟩ = some (.slice none 0 0) := HP.out.cl 0 5 rfl rfl; have zz0 := HP.out.fz 0 0 rfl; have zz1 := HP.out.fz 0 1 rfl; have zz2 := HP.out.fz 0 2 rfl; have zz3 := HP.out.fz 0 3 rfl; have zz4 := HP.out.fz 0 4 rfl; have zz5 := HP.out.fz 0 5 rfl))
   have n0 := Aside0.mk (HP.out.six 0 rfl (.int .i64 F.f0) (.bool F.f1) (.int .i64 F.f2) (.string F.f3) (.slice E4 F.f4.length e4) (.slice E5 F.f5.length e5))
   clear HP
   have HP := n0
   clear n0
   clear e0 yz0 zz0 yv0 yz1 zz1 yv1 yz2 zz2 yv2 yz3 zz3 yv3 yz4 zz4 yv4 yz5 zz5 yv5
   generalize ((((((W5.setCell ⟨bF, 0, none⟩ (.int .i64 F.f0)).setCell ⟨bF, 1, none⟩ (.bool F.f1)).setCell ⟨bF, 2, none⟩ (.int .i64 F.f2)).setCell ⟨bF, 3, none⟩ (.string F.f3)).setCell ⟨bF, 4, none⟩ (.slice E4 F.f4.length e4)).setCell ⟨bF, 5, none⟩ (.slice E5 F.f5.length e5)) = W6 at HP ⊢
   have yf4 : W6.cell? ⟨bF, 4, none⟩ = some (.slice E4 F.f4.length e4) := HP.out.cl 0 4 rfl rfl
   have HM1 := Aside0.mk HR.out.now.1.2.1
   go_wp2_with fail
   go_loopg [35] F.f4.length (fun kq v_ w' => ∃ (ii : Int) (i : Nat), v_ = .int .i64 ii ∧ Aside0 (ii = (i : Int)) ∧ Aside0 (i + kq = F.f4.length) ∧ Aside0 (Bs w w' [(bF, #[.int .i64 F.f0, .bool F.f1, .int .i64 F.f2, .string F.f3, .slice E4 F.f4.length e4, .slice E5 F.f5.length e5], 25), (bv, #[.int .i64 v.f0, .bool v.f1, .int .i64 v.f2, .string v.f3, .slice A4 v.f4.length c4, .slice A5 v.f5.length c5], 25)]))
   case atStart => exact ⟨0, 0, rfl, ⟨rfl⟩, ⟨by omega⟩, HP⟩
   case round =>
    clear HP
    obtain ⟨ii, i, rfl, HIIi, HIi, HP⟩ := hrel
    skip
    cases gk with
    | zero =>
     have e0 : decide (ii < (F.f4.length : Int)) = false := decide_eq_false (by have := HIIi.out; have := HIi.out; omega)
     go_wp2_with fail
     go_ret
     exact ⟨rfl, HP.out.B⟩
    | succ kA =>
     clear yf4
     have pa0 : 0 ≤ ii := by have := HIIi.out; omega
     have pa1 : ii < (F.f4.length : Int) := by have := HIIi.out; have := HIi.out; omega
     have qa0 : decide (ii < (F.f4.length : Int)) = true := decide_eq_true pa1
     have qa1 : decide (0 ≤ ii) = true := decide_eq_true pa0
     obtain ⟨ad, T4, t4, T5, t5, e_, x0, x1, x2, x3, x4, x5, hrd⟩ := at_F25 HR.out.1 ii pa0 pa1
     cases e_
     have ht := HIT.out _ (rd25_in pa0 pa1)
     generalize rd_T25 F.f4 ii = t at x0 x1 x2 x3 x4 x5 hrd ht
     obtain ⟨tl, htk⟩ := ht
     have HT := Aside0.mk hrd
     have HTK := Aside0.mk htk
     have HTL := Aside0.mk tl
     clear hrd htk tl
     replace x0 := (HP.out.B.cell (World.block_lt_of_cell? w _ x0)).trans x0
     replace x1 := (HP.out.B.cell (World.block_lt_of_cell? w _ x1)).trans x1
     replace x2 := (HP.out.B.cell (World.block_lt_of_cell? w _ x2)).trans x2
     replace x3 := (HP.out.B.cell (World.block_lt_of_cell? w _ x3)).trans x3
     replace x4 := (HP.out.B.cell (World.block_lt_of_cell? w _ x4)).trans x4
     replace x5 := (HP.out.B.cell (World.block_lt_of_cell? w _ x5)).trans x5
     replace pa0 := eq_true pa0
     replace pa1 := eq_true pa1
     go_upto_region 11 with (((with_reducible refine gate_dst (N := 8) rfl ?_); refine box_event ?hg (N := 8) ?hd (cs := #[.int .i64 0, .bool false, .int .i64 0, .string ⟨#[]⟩, .slice none 0 0, .slice none 0 0]) (t := 25) ?hr ?_; (case hd => rfl); (case hg => rfl); (case hr => first | (go_simp; done) | (go_simp; rfl)); intro bT hg_ W7 hbox hb; have n0 := Aside0.mk (HP.out.new hg_ hbox hb); clear HP; have HP := n0; clear n0; clear hg_ hbox hb; have yz0 : W7.cell? ⟨bT, 0, none⟩ = some (.int .i64 0) := HP.out.cl 0 0 rfl rfl; have yz1 : W7.cell? ⟨bT, 1, none⟩ = some (.bool false) := HP.out.cl 0 1 rfl rfl; have yz2 : W7.cell? ⟨bT, 2, none⟩ = some (.int .i64 0) := HP.out.cl 0 2 rfl rfl; have yz3 : W7.cell? ⟨bT, 3, none⟩ = some (.string ⟨#[]⟩) := HP.out.cl 0 3 rfl rfl; have yz4 : W7.cell? ⟨bT, 4, none⟩ = some (.slice none 0 0) := HP.out.cl 0 4 rfl rfl; have yz5 : W7.cell? ⟨bT, 5, none⟩ = some (.slice none 0 0) := HP.out.cl 0 5 rfl rfl; have zz0 := HP.out.fz 0 0 rfl; have zz1 := HP.out.fz 0 1 rfl; have zz2 := HP.out.fz 0 2 rfl; have zz3 := HP.out.fz 0 3 rfl; have zz4 := HP.out.fz 0 4 rfl; have zz5 := HP.out.fz 0 5 rfl))
     have n0 := Aside0.mk (HP.out.six 0 rfl (.int .i64 t.f0) (.bool t.f1) (.int .i64 t.f2) (.string t.f3) (.slice T4 t.f4.length t4) (.slice T5 t.f5.length t5))
     clear HP
     have HP := n0
     clear n0
     clear yz0 zz0 x0 yz1 zz1 x1 yz2 zz2 x2 yz3 zz3 x3 yz4 zz4 x4 yz5 zz5 x5
     generalize ((((((W7.setCell ⟨bT, 0, none⟩ (.int .i64 t.f0)).setCell ⟨bT, 1, none⟩ (.bool t.f1)).setCell ⟨bT, 2, none⟩ (.int .i64 t.f2)).setCell ⟨bT, 3, none⟩ (.string t.f3)).setCell ⟨bT, 4, none⟩ (.slice T4 t.f4.length t4)).setCell ⟨bT, 5, none⟩ (.slice T5 t.f5.length t5)) = W8 at HP ⊢
     have yt5 : W8.cell? ⟨bT, 5, none⟩ = some (.slice T5 t.f5.length t5) := HP.out.cl 0 5 rfl rfl
     have HM2 := Aside0.mk HT.out.now.2.2.1.2.1
     go_wp2_with fail
     go_loopg [42] t.f5.length (fun kq v_ w' => ∃ (jj : Int) (j : Nat), v_ = .int .i64 jj ∧ Aside0 (jj = (j : Int)) ∧ Aside0 (j + kq = t.f5.length) ∧ Aside0 (Bs w w' [(bT, #[.int .i64 t.f0, .bool t.f1, .int .i64 t.f2, .string t.f3, .slice T4 t.f4.length t4, .slice T5 t.f5.length t5], 25), (bF, #[.int .i64 F.f0, .bool F.f1, .int .i64 F.f2, .string F.f3, .slice (some ad) F.f4.length e4, .slice E5 F.f5.length e5], 25), (bv, #[.int .i64 v.f0, .bool v.f1, .int .i64 v.f2, .string v.f3, .slice A4 v.f4.length c4, .slice A5 v.f5.length c5], 25)]))
     case atStart => exact ⟨0, 0, rfl, ⟨rfl⟩, ⟨by omega⟩, HP⟩
     case round =>
      clear HP
      obtain ⟨jj, j, rfl, HIIj, HIj, HP⟩ := hrel
      skip
      cases gk with
      | zero =>
       have e0 : decide (jj < (t.f5.length : Int)) = false := decide_eq_false (by have := HIIj.out; have := HIj.out; omega)
       go_wp2_with fail
       go_roundg kA
       case measure => omega
       case rel => exact ⟨_, i + 1, rfl, ⟨by have h1_ := HM1.out; have h2_ := HIIi.out; have h3_ := HIi.out; unfold wrap64; omega⟩, ⟨by have := HIi.out; omega⟩, ⟨HP.out.tail⟩⟩
      | succ kB =>
       clear yt5 qa0 qa1 pa0 pa1
       have pb0 : 0 ≤ jj := by have := HIIj.out; omega
       have pb1 : jj < (t.f5.length : Int) := by have := HIIj.out; have := HIj.out; omega
       have qb0 : decide (jj < (t.f5.length : Int)) = true := decide_eq_true pb1
       have qb1 : decide (0 ≤ jj) = true := decide_eq_true pb0
       have pb2 : jj < (t.f4.length : Int) := by have := HTL.out; omega
       have qb2 : decide (jj < (t.f4.length : Int)) = true := decide_eq_true pb2
       obtain ⟨ak, e_, y0⟩ := Kd.at_string (Kd.F_now HT.out.2.2.1) jj pb0 pb1
       cases e_
       obtain ⟨ad2, X4, x4_, X5, x5_, e_, x0, x1, x2, x3, x4, x5, _⟩ := at_F25 HT.out.1 jj pb0 pb2
       cases e_
       have hk := HTK.out j (by have := HIj.out; omega)
       rw [← HIIj.out] at hk
       generalize rdOf ByteArray.empty t.f5 jj = key at y0 hk
       generalize rd_T25 t.f4 jj = x at x0 x1 x2 x3 x4 x5 hk
       obtain ⟨hk1, hk2⟩ := hk
       have HK1 := Aside0.mk hk1
       have HK2 := Aside0.mk hk2
       clear hk1 hk2 x0 x1 x2 x4 x5
       replace x3 := (HP.out.B.cell (World.block_lt_of_cell? w _ x3)).trans x3
       replace y0 := (HP.out.B.cell (World.block_lt_of_cell? w _ y0)).trans y0
       replace pb0 := eq_true pb0
       replace pb1 := eq_true pb1
       replace pb2 := eq_true pb2
       by_cases c3 : fK key = -1
       case pos =>
        have c4 := HK1.out c3
        have c3a : ((fK key) == -1) = true := beq_iff_eq.2 c3
        have c3b : ((fK key) != -1) = false := bne_eq_false_iff_eq.2 c3
        replace c3 := Aside0.mk c3
        have c4a : (key.toList == ([100, 101, 102, 97, 117, 108, 116] : List UInt8)) = true := beq_iff_eq.2 c4
        have c4b : (key.toList != ([100, 101, 102, 97, 117, 108, 116] : List UInt8)) = false := bne_eq_false_iff_eq.2 c4
        replace c4 := Aside0.mk c4
        by_cases c5 : key.toList = ([107, 105, 110, 100] : List UInt8)
        case neg =>
         have c5a : (key.toList == ([107, 105, 110, 100] : List UInt8)) = false := beq_eq_false_iff_ne.2 c5
         have c5b : (key.toList != ([107, 105, 110, 100] : List UInt8)) = true := bne_iff_ne.2 c5
         replace c5 := Aside0.mk c5
         go_wp2_with (go_at_call 58; refine (fieldKind_calls key _).mono ?_; rintro e W9 ⟨rfl, hb⟩; have n0 := Aside0.mk (HP.out.below hb); clear HP; have HP := n0; clear n0; replace x3 := (hb.cell (World.block_lt_of_cell? _ _ x3)).trans x3; clear hb; have yt4 : W9.cell? ⟨bT, 4, none⟩ = some (.slice (some ad2) t.f4.length t4) := HP.out.cl 0 4 rfl rfl)
         go_roundg kB
         case measure => omega
         case rel => exact ⟨_, j + 1, rfl, ⟨by have h1_ := HM2.out; have h2_ := HIIj.out; have h3_ := HIj.out; unfold wrap64; omega⟩, ⟨by have := HIj.out; omega⟩, HP⟩
        case pos =>
         obtain ⟨n, hn⟩ := HK2.out c5
         replace hn := Aside0.mk hn
         have c5a : (key.toList == ([107, 105, 110, 100] : List UInt8)) = true := beq_iff_eq.2 c5
         have c5b : (key.toList != ([107, 105, 110, 100] : List UInt8)) = false := bne_eq_false_iff_eq.2 c5
         replace c5 := Aside0.mk c5
         go_wp2_with (first | (go_at_call 58; refine (fieldKind_calls key _).mono ?_; rintro e W9 ⟨rfl, hb⟩; have n0 := Aside0.mk (HP.out.below hb); clear HP; have HP := n0; clear n0; replace x3 := (hb.cell (World.block_lt_of_cell? _ _ x3)).trans x3; clear hb; have yt4 : W9.cell? ⟨bT, 4, none⟩ = some (.slice (some ad2) t.f4.length t4) := HP.out.cl 0 4 rfl rfl) | (go_at_call 59; refine (kindOf_calls x.f3 (n, true) _ (HKN.out.below HP.out.B) hn.out).mono ?_; rintro e Wk ⟨rfl, hb⟩; have n0 := Aside0.mk (HP.out.below hb); clear HP; have HP := n0; clear n0; clear hb))
         go_roundg kB
         case measure => omega
         case rel => exact ⟨_, j + 1, rfl, ⟨by have h1_ := HM2.out; have h2_ := HIIj.out; have h3_ := HIj.out; unfold wrap64; omega⟩, ⟨by have := HIj.out; omega⟩, HP⟩
       case neg =>
        have c3a : ((fK key) == -1) = false := beq_eq_false_iff_ne.2 c3
        have c3b : ((fK key) != -1) = true := bne_iff_ne.2 c3
        replace c3 := Aside0.mk c3
        by_cases c5 : key.toList = ([107, 105, 110, 100] : List UInt8)
        case neg =>
         have c5a : (key.toList == ([107, 105, 110, 100] : List UInt8)) = false := beq_eq_false_iff_ne.2 c5
         have c5b : (key.toList != ([107, 105, 110, 100] : List UInt8)) = true := bne_iff_ne.2 c5
         replace c5 := Aside0.mk c5
         go_wp2_with (go_at_call 58; refine (fieldKind_calls key _).mono ?_; rintro e W9 ⟨rfl, hb⟩; have n0 := Aside0.mk (HP.out.below hb); clear HP; have HP := n0; clear n0; replace x3 := (hb.cell (World.block_lt_of_cell? _ _ x3)).trans x3; clear hb; have yt4 : W9.cell? ⟨bT, 4, none⟩ = some (.slice (some ad2) t.f4.length t4) := HP.out.cl 0 4 rfl rfl)
         go_roundg kB
         case measure => omega
         case rel => exact ⟨_, j + 1, rfl, ⟨by have h1_ := HM2.out; have h2_ := HIIj.out; have h3_ := HIj.out; unfold wrap64; omega⟩, ⟨by have := HIj.out; omega⟩, HP⟩
        case pos =>
         obtain ⟨n, hn⟩ := HK2.out c5
         replace hn := Aside0.mk hn
         have c5a : (key.toList == ([107, 105, 110, 100] : List UInt8)) = true := beq_iff_eq.2 c5
         have c5b : (key.toList != ([107, 105, 110, 100] : List UInt8)) = false := bne_eq_false_iff_eq.2 c5
         replace c5 := Aside0.mk c5
         go_wp2_with (first | (go_at_call 58; refine (fieldKind_calls key _).mono ?_; rintro e W9 ⟨rfl, hb⟩; have n0 := Aside0.mk (HP.out.below hb); clear HP; have HP := n0; clear n0; replace x3 := (hb.cell (World.block_lt_of_cell? _ _ x3)).trans x3; clear hb; have yt4 : W9.cell? ⟨bT, 4, none⟩ = some (.slice (some ad2) t.f4.length t4) := HP.out.cl 0 4 rfl rfl) | (go_at_call 59; refine (kindOf_calls x.f3 (n, true) _ (HKN.out.below HP.out.B) hn.out).mono ?_; rintro e Wk ⟨rfl, hb⟩; have n0 := Aside0.mk (HP.out.below hb); clear HP; have HP := n0; clear n0; clear hb))
         go_roundg kB
         case measure => omega
         case rel => exact ⟨_, j + 1, rfl, ⟨by have h1_ := HM2.out; have h2_ := HIIj.out; have h3_ := HIj.out; unfold wrap64; omega⟩, ⟨by have := HIj.out; omega⟩, HP⟩
end Go.Proofs.YtlofkjdcapbohaaGreatDoor.PConfKeeps
