/- For the laws of conf: boxes; get, Get, Set and Routes, walked. No condition. -/
import Derived.Test.YtlofkjdcapbohaaGreatDoorCfC
import Derived.Test.YtlofkjdcapbohaaGreatDoorCfR
import Derived.Test.YtlofkjdcapbohaaGreatDoorPConfKeepsx10
namespace Go.Proofs.YtlofkjdcapbohaaGreatDoor.PConfKeeps
open Go.RowKit Go.Proofs.YtlofkjdcapbohaaGreatDoorW.PrintWords Go.Proofs.YtlofkjdcapbohaaGreatDoorW.PrintLast Go.Proofs.YtlofkjdcapbohaaGreatDoorW.PrintMore
set_option linter.unusedVariables false
set_option linter.unusedSimpArgs false

def cget : List S95 → S25 → Option (S25 × Bool)
  | [], v => some (v, true)
  | s :: l, v => (cfollow v s).bind fun p => if p.2 = true then cget l p.1 else some (z25, false)
theorem at_drop {α : Type} {l l' : List α} {i : Nat} {s : α} (h : l.drop i = s :: l') : i < l.length ∧ l.drop (i + 1) = l' ∧ ∀ z, l.getD i z = s := by
  have hl : i < l.length := by
    apply Classical.byContradiction; intro hn
    rw [List.drop_eq_nil_of_le (by omega)] at h; cases h
  rw [List.drop_eq_getElem_cons hl] at h
  injection h with h1 h2
  exact ⟨hl, h2, fun z => by rw [List.getD_eq_getElem?_getD, List.getElem?_eq_getElem hl]; exact h1⟩
set_option maxHeartbeats 4000000 in
set_option maxRecDepth 100000 in
theorem get_calls (l : List S95) (v : S25) (A4 : Option Addr) (c4 : Nat) (A5 : Option Addr) (c5 : Nat) (A1 : Option Addr) (c1 : Nat) (r : S25 × Bool) (w : World) (ok0 : Nat → Prop) (hv : RdF w ok0 v A4 c4 A5 c5) (hl : Kd.C k95 w A1 l.length l) (hc : l.length ≤ c1) (h : cget l v = some r) :
    Calls Tryz.prog 23 #[.agg #[.int .i64 v.f0, .bool v.f1, .int .i64 v.f2, .string v.f3, .slice A4 v.f4.length c4, .slice A5 v.f5.length c5], .slice A1 l.length c1] w fun e w' => ∃ E4 e4 E5 e5, e = .returned (.tuple #[.agg #[.int .i64 r.1.f0, .bool r.1.f1, .int .i64 r.1.f2, .string r.1.f3, .slice E4 r.1.f4.length e4, .slice E5 r.1.f5.length e5], .bool r.2]) ∧ RdF w' ok0 r.1 E4 e4 E5 e5 ∧ Below w.heap.size w w' := by
  have hu25 := Tryz.underlying25
  have hu95 := Tryz.underlying95
  have HV := Aside0.mk hv.bound
  have HL := Aside0.mk hl
  have H := Aside0.mk h
  have HP := Aside0.mk (Bs.nil w)
  have HM : Aside0 (l.length ≤ 9223372036854775807) := ⟨hl.2.1⟩
  clear hv hl h
  go_enter Tryz.func23, Tryz.ntmps23
  go_upto_region 1 with (first | ((with_reducible refine gate_dst (N := 2) rfl ?_); refine box_event ?hg (N := 2) ?hd (cs := #[.int .i64 v.f0, .bool v.f1, .int .i64 v.f2, .string v.f3, .slice A4 v.f4.length c4, .slice A5 v.f5.length c5]) (t := 25) ?hr ?_; (case hd => rfl); (case hg => rfl); (case hr => first | (go_simp; done) | (go_simp; rfl)); intro bv hg_ W1 hbox hb; have n0 := Aside0.mk (HP.out.new hg_ hbox hb); clear HP; have HP := n0; clear n0; clear hg_ hbox hb) | ((with_reducible refine gate_dst (N := 4) rfl ?_); refine box_event ?hg (N := 4) ?hd (cs := #[.int .i64 0, .bool false, .int .i64 0, .string ⟨#[]⟩, .slice none 0 0, .slice none 0 0]) (t := 25) ?hr ?_; (case hd => rfl); (case hg => rfl); (case hr => first | (go_simp; done) | (go_simp; rfl)); intro br hg_ W2 hbox hb; have n0 := Aside0.mk (HP.out.new hg_ hbox hb); clear HP; have HP := n0; clear n0; clear hg_ hbox hb))
  go_wp2_with fail
  go_loopg [11] l.length (fun kq v11 w' => ∃ (ii : Int) (i : Nat) (cur : S25) (F4 : Option Addr) (f4 : Nat) (F5 : Option Addr) (f5 : Nat) (l' : List S95), v11 = .int .i64 ii ∧ Aside0 (ii = (i : Int)) ∧ Aside0 (l.drop i = l') ∧ Aside0 (l'.length = kq) ∧ Aside0 (cget l' cur = some r) ∧ Aside0 (RdF w' (fun k => ok0 k ∧ k < w.heap.size) cur F4 f4 F5 f5) ∧ Aside0 (Bs w w' [(br, #[.int .i64 0, .bool false, .int .i64 0, .string ⟨#[]⟩, .slice none 0 0, .slice none 0 0], 25), (bv, #[.int .i64 cur.f0, .bool cur.f1, .int .i64 cur.f2, .string cur.f3, .slice F4 cur.f4.length f4, .slice F5 cur.f5.length f5], 25)]))
  case atStart => exact ⟨0, 0, v, A4, c4, A5, c5, l, rfl, ⟨rfl⟩, ⟨rfl⟩, ⟨rfl⟩, H, ⟨HV.out.below HP.out.B⟩, HP⟩
  case round =>
    clear HP HV H
    obtain ⟨ii, i, cur, F4, f4, F5, f5, l', rfl, HII, HD, HK, H, HR, HP⟩ := hrel
    cases l' with
    | nil =>
      have h0 : l.length ≤ i := by have := HD.out; exact Nat.le_of_not_lt (fun hlt => by rw [List.drop_eq_getElem_cons hlt] at this; cases this)
      have e3 : decide (ii < (l.length : Int)) = false := decide_eq_false (by have := HII.out; omega)
      have H1 := H.out
      rw [cget] at H1
      injection H1 with H1
      subst H1
      have yv0 : wr.cell? ⟨bv, 0, none⟩ = some (.int .i64 cur.f0) := (blk_cell (HP.out.get 1 rfl) 0).trans rfl
      have yv1 : wr.cell? ⟨bv, 1, none⟩ = some (.bool cur.f1) := (blk_cell (HP.out.get 1 rfl) 1).trans rfl
      have yv2 : wr.cell? ⟨bv, 2, none⟩ = some (.int .i64 cur.f2) := (blk_cell (HP.out.get 1 rfl) 2).trans rfl
      have yv3 : wr.cell? ⟨bv, 3, none⟩ = some (.string cur.f3) := (blk_cell (HP.out.get 1 rfl) 3).trans rfl
      have yv4 : wr.cell? ⟨bv, 4, none⟩ = some (.slice F4 cur.f4.length f4) := (blk_cell (HP.out.get 1 rfl) 4).trans rfl
      have yv5 : wr.cell? ⟨bv, 5, none⟩ = some (.slice F5 cur.f5.length f5) := (blk_cell (HP.out.get 1 rfl) 5).trans rfl
      have yr0 : wr.cell? ⟨br, 0, none⟩ = some (.int .i64 0) := (blk_cell (HP.out.get 0 rfl) 0).trans rfl
      have yr1 : wr.cell? ⟨br, 1, none⟩ = some (.bool false) := (blk_cell (HP.out.get 0 rfl) 1).trans rfl
      have yr2 : wr.cell? ⟨br, 2, none⟩ = some (.int .i64 0) := (blk_cell (HP.out.get 0 rfl) 2).trans rfl
      have yr3 : wr.cell? ⟨br, 3, none⟩ = some (.string ⟨#[]⟩) := (blk_cell (HP.out.get 0 rfl) 3).trans rfl
      have yr4 : wr.cell? ⟨br, 4, none⟩ = some (.slice none 0 0) := (blk_cell (HP.out.get 0 rfl) 4).trans rfl
      have yr5 : wr.cell? ⟨br, 5, none⟩ = some (.slice none 0 0) := (blk_cell (HP.out.get 0 rfl) 5).trans rfl
      have zr0 := blk_frozen (HP.out.get 0 rfl) 0
      have zr1 := blk_frozen (HP.out.get 0 rfl) 1
      have zr2 := blk_frozen (HP.out.get 0 rfl) 2
      have zr3 := blk_frozen (HP.out.get 0 rfl) 3
      have zr4 := blk_frozen (HP.out.get 0 rfl) 4
      have zr5 := blk_frozen (HP.out.get 0 rfl) 5
      go_wp2_with fail
      refine bodyPost_ret (results_ct rfl _ _ br 25 #[.int .i64 cur.f0, .bool cur.f1, .int .i64 cur.f2, .string cur.f3, .slice F4 cur.f4.length f4, .slice F5 cur.f5.length f5] (0, 0) _ rfl (put6 (HP.out.get 0 rfl) _ _ _ _ _ _) Tryz.underlying25 rfl (by kernel_rfl)) rfl ?_
      exact ⟨F4, f4, F5, f5, rfl, (HR.out.six (g := br) (fun k hk => by have := hk.2; have := HP.out.low 0 rfl; omega) (.int .i64 cur.f0) (.bool cur.f1) (.int .i64 cur.f2) (.string cur.f3) (.slice F4 cur.f4.length f4) (.slice F5 cur.f5.length f5)).mono (fun k hk => hk.1), put6_below HP.out.B (HP.out.low 0 rfl) _ _ _ _ _ _⟩
    | cons s l' =>
      obtain ⟨hi, hd, hs⟩ := at_drop HD.out
      have H1 := H.out
      rw [cget] at H1
      obtain ⟨p, hp, H1⟩ := Option.bind_eq_some_iff.1 H1
      have HF := Aside0.mk hp
      have HN := Aside0.mk H1
      clear H1 hp H
      have p0 : 0 ≤ ii := by have := HII.out; omega
      have p1 : ii < (l.length : Int) := by have := HII.out; omega
      have e3 : decide (ii < (l.length : Int)) = true := decide_eq_true p1
      have e4 : decide (0 ≤ ii) = true := decide_eq_true p0
      obtain ⟨pa, e_, x0, x1, x2⟩ := at_T95 HL.out ii p0 p1
      cases e_
      have es : rd_T95 l ii = s := by rw [HII.out]; exact hs _
      rw [es] at x0 x1 x2
      clear es hs
      replace x0 := (HP.out.B.cell (World.block_lt_of_cell? w _ x0)).trans x0
      replace x1 := (HP.out.B.cell (World.block_lt_of_cell? w _ x1)).trans x1
      replace x2 := (HP.out.B.cell (World.block_lt_of_cell? w _ x2)).trans x2
      replace p0 := eq_true p0
      replace p1 := eq_true p1
      go_upto_region 4 with (((with_reducible refine gate_dst (N := 7) rfl ?_); refine box_event ?hg (N := 7) ?hd (cs := #[.string ⟨#[]⟩, .int .i64 0, .bool false]) (t := 95) ?hr ?_; (case hd => rfl); (case hg => rfl); (case hr => first | (go_simp; done) | (go_simp; rfl)); intro bs hg_ W3 hbox hb; have n0 := Aside0.mk (HP.out.new hg_ hbox hb); have n1 := Aside0.mk (HR.out.below hb); clear HP HR; have HP := n0; have HR := n1; clear n0 n1; clear hg_ hbox hb; have ys0 : W3.cell? ⟨bs, 0, none⟩ = some (.string ⟨#[]⟩) := (blk_cell (HP.out.get 0 rfl) 0).trans rfl; have ys1 : W3.cell? ⟨bs, 1, none⟩ = some (.int .i64 0) := (blk_cell (HP.out.get 0 rfl) 1).trans rfl; have ys2 : W3.cell? ⟨bs, 2, none⟩ = some (.bool false) := (blk_cell (HP.out.get 0 rfl) 2).trans rfl; have zs0 := blk_frozen (HP.out.get 0 rfl) 0; have zs1 := blk_frozen (HP.out.get 0 rfl) 1; have zs2 := blk_frozen (HP.out.get 0 rfl) 2))
      have n0 := Aside0.mk (HP.out.three 0 rfl (.string s.f0) (.int .i64 s.f1) (.bool s.f2))
      have n1 := Aside0.mk (HR.out.three (g := bs) (fun k hk => by have := hk.2; have := HP.out.low 0 rfl; omega) (.string s.f0) (.int .i64 s.f1) (.bool s.f2))
      clear HP HR
      have HP := n0
      have HR := n1
      clear n0 n1
      clear ys0 ys1 ys2 zs0 zs1 zs2 x0 x1 x2
      generalize (((W3.setCell ⟨bs, 0, none⟩ (.string s.f0)).setCell ⟨bs, 1, none⟩ (.int .i64 s.f1)).setCell ⟨bs, 2, none⟩ (.bool s.f2)) = W4 at HP HR ⊢
      have ys0 : W4.cell? ⟨bs, 0, none⟩ = some (.string s.f0) := (blk_cell (HP.out.get 0 rfl) 0).trans rfl
      have ys1 : W4.cell? ⟨bs, 1, none⟩ = some (.int .i64 s.f1) := (blk_cell (HP.out.get 0 rfl) 1).trans rfl
      have ys2 : W4.cell? ⟨bs, 2, none⟩ = some (.bool s.f2) := (blk_cell (HP.out.get 0 rfl) 2).trans rfl
      have yv0 : W4.cell? ⟨bv, 0, none⟩ = some (.int .i64 cur.f0) := (blk_cell (HP.out.get 2 rfl) 0).trans rfl
      have yv1 : W4.cell? ⟨bv, 1, none⟩ = some (.bool cur.f1) := (blk_cell (HP.out.get 2 rfl) 1).trans rfl
      have yv2 : W4.cell? ⟨bv, 2, none⟩ = some (.int .i64 cur.f2) := (blk_cell (HP.out.get 2 rfl) 2).trans rfl
      have yv3 : W4.cell? ⟨bv, 3, none⟩ = some (.string cur.f3) := (blk_cell (HP.out.get 2 rfl) 3).trans rfl
      have yv4 : W4.cell? ⟨bv, 4, none⟩ = some (.slice F4 cur.f4.length f4) := (blk_cell (HP.out.get 2 rfl) 4).trans rfl
      have yv5 : W4.cell? ⟨bv, 5, none⟩ = some (.slice F5 cur.f5.length f5) := (blk_cell (HP.out.get 2 rfl) 5).trans rfl
      go_upto_region 6 with ((go_at_call 49; refine (follow_calls cur F4 f4 F5 f5 s p _ (fun k => ok0 k ∧ k < w.heap.size) HR.out.K HF.out).mono ?_; rintro e W5 ⟨G4, g4, G5, g5, rfl, hro, hb⟩; have n0 := Aside0.mk (HP.out.below hb); clear HP; have HP := n0; clear n0; clear HR; have HR := Aside0.mk hro; clear hro hb; have yw0 : W5.cell? ⟨bv, 0, none⟩ = some (.int .i64 cur.f0) := (blk_cell (HP.out.get 2 rfl) 0).trans rfl; have yw1 : W5.cell? ⟨bv, 1, none⟩ = some (.bool cur.f1) := (blk_cell (HP.out.get 2 rfl) 1).trans rfl; have yw2 : W5.cell? ⟨bv, 2, none⟩ = some (.int .i64 cur.f2) := (blk_cell (HP.out.get 2 rfl) 2).trans rfl; have yw3 : W5.cell? ⟨bv, 3, none⟩ = some (.string cur.f3) := (blk_cell (HP.out.get 2 rfl) 3).trans rfl; have yw4 : W5.cell? ⟨bv, 4, none⟩ = some (.slice F4 cur.f4.length f4) := (blk_cell (HP.out.get 2 rfl) 4).trans rfl; have yw5 : W5.cell? ⟨bv, 5, none⟩ = some (.slice F5 cur.f5.length f5) := (blk_cell (HP.out.get 2 rfl) 5).trans rfl; have zw0 := blk_frozen (HP.out.get 2 rfl) 0; have zw1 := blk_frozen (HP.out.get 2 rfl) 1; have zw2 := blk_frozen (HP.out.get 2 rfl) 2; have zw3 := blk_frozen (HP.out.get 2 rfl) 3; have zw4 := blk_frozen (HP.out.get 2 rfl) 4; have zw5 := blk_frozen (HP.out.get 2 rfl) 5))
      have n0 := Aside0.mk (HR.out.six (g := bv) (fun k hk => by have := hk.2; have := HP.out.low 2 rfl; omega) (.int .i64 p.1.f0) (.bool p.1.f1) (.int .i64 p.1.f2) (.string p.1.f3) (.slice G4 p.1.f4.length g4) (.slice G5 p.1.f5.length g5))
      have n1 := Aside0.mk (HP.out.six 2 rfl (.int .i64 p.1.f0) (.bool p.1.f1) (.int .i64 p.1.f2) (.string p.1.f3) (.slice G4 p.1.f4.length g4) (.slice G5 p.1.f5.length g5))
      clear HR HP
      have HR := n0
      have HP := n1
      clear n0 n1
      clear yw0 zw0 yv0 yw1 zw1 yv1 yw2 zw2 yv2 yw3 zw3 yv3 yw4 zw4 yv4 yw5 zw5 yv5 ys0 ys1 ys2
      generalize ((((((W5.setCell ⟨bv, 0, none⟩ (.int .i64 p.1.f0)).setCell ⟨bv, 1, none⟩ (.bool p.1.f1)).setCell ⟨bv, 2, none⟩ (.int .i64 p.1.f2)).setCell ⟨bv, 3, none⟩ (.string p.1.f3)).setCell ⟨bv, 4, none⟩ (.slice G4 p.1.f4.length g4)).setCell ⟨bv, 5, none⟩ (.slice G5 p.1.f5.length g5)) = W6 at HP HR ⊢
      cases hb2 : p.2 with
      | false =>
        have H1 := HN.out
        rw [hb2, if_neg (by decide)] at H1
        injection H1 with H1
        subst H1
        have n0 := Aside0.mk (HP.out.tail)
        clear HP
        have HP := n0
        clear n0
        have yr0 : W6.cell? ⟨br, 0, none⟩ = some (.int .i64 0) := (blk_cell (HP.out.get 0 rfl) 0).trans rfl
        have yr1 : W6.cell? ⟨br, 1, none⟩ = some (.bool false) := (blk_cell (HP.out.get 0 rfl) 1).trans rfl
        have yr2 : W6.cell? ⟨br, 2, none⟩ = some (.int .i64 0) := (blk_cell (HP.out.get 0 rfl) 2).trans rfl
        have yr3 : W6.cell? ⟨br, 3, none⟩ = some (.string ⟨#[]⟩) := (blk_cell (HP.out.get 0 rfl) 3).trans rfl
        have yr4 : W6.cell? ⟨br, 4, none⟩ = some (.slice none 0 0) := (blk_cell (HP.out.get 0 rfl) 4).trans rfl
        have yr5 : W6.cell? ⟨br, 5, none⟩ = some (.slice none 0 0) := (blk_cell (HP.out.get 0 rfl) 5).trans rfl
        have zr0 := blk_frozen (HP.out.get 0 rfl) 0
        have zr1 := blk_frozen (HP.out.get 0 rfl) 1
        have zr2 := blk_frozen (HP.out.get 0 rfl) 2
        have zr3 := blk_frozen (HP.out.get 0 rfl) 3
        have zr4 := blk_frozen (HP.out.get 0 rfl) 4
        have zr5 := blk_frozen (HP.out.get 0 rfl) 5
        go_wp2_with fail
        refine bodyPost_ret (results_ct rfl _ _ br 25 #[.int .i64 0, .bool false, .int .i64 0, .string ⟨#[]⟩, .slice none 0 0, .slice none 0 0] (0, 0) _ rfl (put6 (HP.out.get 0 rfl) _ _ _ _ _ _) Tryz.underlying25 rfl (by kernel_rfl)) rfl ?_
        exact ⟨none, 0, none, 0, rfl, RdF.nil _ _ _ _ _ _, put6_below HP.out.B (HP.out.low 0 rfl) _ _ _ _ _ _⟩
      | true =>
        have H1 := HN.out
        rw [hb2, if_pos rfl] at H1
        go_wp2_with fail
        go_roundg l'.length
        case measure => have := HK.out; simp only [List.length_cons] at this; omega
        case rel => exact ⟨_, i + 1, p.1, G4, g4, G5, g5, l', rfl, ⟨by have h1_ := HM.out; have h2_ := HII.out; unfold wrap64; omega⟩, ⟨hd⟩, ⟨rfl⟩, ⟨H1⟩, HR, ⟨HP.out.tail⟩⟩
theorem Rd.F {w : World} {v : S25} {A4 : Option Addr} {c4 : Nat} {A5 : Option Addr} {c5 : Nat} (h : Rd w v A4 c4 A5 c5) : RdF w (fun k => k < w.heap.size) v A4 c4 A5 c5 := ⟨Kd.C_F k25_heap h.1, h.2.1, Kd.C_F Kd.heap_string h.2.2.1, h.2.2.2⟩
def Fck (k : Nat) (v : S25) : Option Int := conf_Check.f k v.f0 v.f1 v.f2 v.f3 v.f4 v.f5
def Fcl (k : Nat) (v : S25) : Option S25 := (conf_clone.f k v.f0 v.f1 v.f2 v.f3 v.f4 v.f5).bind fun t => some ⟨t.1, t.2.1, t.2.2.1, t.2.2.2.1, t.2.2.2.2.1, t.2.2.2.2.2⟩
theorem check_calls (k : Nat) (v : S25) (A4 : Option Addr) (c4 : Nat) (A5 : Option Addr) (c5 : Nat) (e1 : Int) (w : World) (hv : Rd w v A4 c4 A5 c5) (h : Fck k v = some e1) : Calls Tryz.prog 18 #[.agg #[.int .i64 v.f0, .bool v.f1, .int .i64 v.f2, .string v.f3, .slice A4 v.f4.length c4, .slice A5 v.f5.length c5]] w fun e w' => e = .returned (.int .i64 e1) ∧ Below w.heap.size w w' :=
  conf_Check.calls k v.f0 v.f1 v.f2 v.f3 A4 c4 v.f4 A5 c5 v.f5 e1 w hv.1 hv.2.1 hv.2.2.1 hv.2.2.2 h
theorem clone_calls (k : Nat) (v : S25) (A4 : Option Addr) (c4 : Nat) (A5 : Option Addr) (c5 : Nat) (r : S25) (w : World) (hv : Rd w v A4 c4 A5 c5) (h : Fcl k v = some r) : Calls Tryz.prog 21 #[.agg #[.int .i64 v.f0, .bool v.f1, .int .i64 v.f2, .string v.f3, .slice A4 v.f4.length c4, .slice A5 v.f5.length c5]] w fun e w' => ∃ E4 e4 E5 e5, e = .returned (.agg #[.int .i64 r.f0, .bool r.f1, .int .i64 r.f2, .string r.f3, .slice E4 r.f4.length e4, .slice E5 r.f5.length e5]) ∧ RdF w' (fun k => w.heap.size ≤ k) r E4 e4 E5 e5 ∧ Below w.heap.size w w' := by
  unfold Fcl at h
  obtain ⟨⟨t1, t2, t3, t4, t5, t6⟩, ht, h⟩ := Option.bind_eq_some_iff.1 h
  injection h with h
  subst h
  refine (conf_clone.calls k v.f0 v.f1 v.f2 v.f3 A4 c4 v.f4 A5 c5 v.f5 t1 t2 t3 t4 t5 t6 w hv.1 hv.2.1 hv.2.2.1 hv.2.2.2 ht).mono ?_
  rintro e w' ⟨v4, v5, rfl, h4, h5, hb⟩
  obtain ⟨A4', d4, rfl, l4, _⟩ := Kd.R_reads h4
  obtain ⟨A5', d5, rfl, l5, _⟩ := Kd.R_reads h5
  exact ⟨A4', d4, A5', d5, rfl, ⟨Kd.F_mono (Kd.R_F (Kd.R_bound h4)) (fun _ hk => hk.2.1), l4, Kd.F_mono (Kd.R_F (Kd.R_bound h5)) (fun _ hk => hk.2.1), l5⟩, hb⟩
theorem steps_calls (k : Nat) (s : ByteArray) (b : Bool) (l : List S95) (ok : Bool) (w : World) (h : conf_steps.f k s b = some (l, ok)) : Calls Tryz.prog 19 #[.string s, .bool b] w fun e w' => ∃ A c, e = .returned (.tuple #[.slice A l.length c, .bool ok]) ∧ Kd.C k95 w' A l.length l ∧ l.length ≤ c ∧ Below w.heap.size w w' := by
  refine (conf_steps.calls k s b l ok w h).mono ?_
  rintro e w' ⟨v, rfl, hr, hb⟩
  obtain ⟨A, c, rfl, hc, hC⟩ := Kd.R_reads hr
  exact ⟨A, c, rfl, hC, hc, hb⟩
def cGet (k : Nat) (v : S25) (route : ByteArray) : Option (S25 × Int) :=
  (Fck k v).bind fun e => if e = 0 then (conf_steps.f k route false).bind fun st => if st.2 = true then (cget st.1 v).bind fun g => if g.2 = true then (Fcl k g.1).bind fun c => some (c, 0) else some (z25, 7) else some (z25, 3) else some (z25, e)

set_option maxHeartbeats 4000000 in
set_option maxRecDepth 100000 in
theorem Get_calls (k : Nat) (v : S25) (A4 : Option Addr) (c4 : Nat) (A5 : Option Addr) (c5 : Nat) (route : ByteArray) (r : S25 × Int) (w : World) (hv : Rd w v A4 c4 A5 c5) (h : cGet k v route = some r) :
    Calls Tryz.prog 10 #[.agg #[.int .i64 v.f0, .bool v.f1, .int .i64 v.f2, .string v.f3, .slice A4 v.f4.length c4, .slice A5 v.f5.length c5], .string route] w fun e w' => ∃ E4 e4 E5 e5, e = .returned (.tuple #[.agg #[.int .i64 r.1.f0, .bool r.1.f1, .int .i64 r.1.f2, .string r.1.f3, .slice E4 r.1.f4.length e4, .slice E5 r.1.f5.length e5], .int .i64 r.2]) ∧ Rd w' r.1 E4 e4 E5 e5 ∧ Below w.heap.size w w' := by
  have hu25 := Tryz.underlying25
  have HV := Aside0.mk hv
  have HP := Aside0.mk (Bs.nil w)
  unfold cGet at h
  obtain ⟨e1, hck, h⟩ := Option.bind_eq_some_iff.1 h
  have HC := Aside0.mk hck
  have H := Aside0.mk h
  clear hv h hck
  go_enter Tryz.func10, Tryz.ntmps10
  go_upto_region 1 with (first | ((with_reducible refine gate_dst (N := 2) rfl ?_); refine box_event ?hg (N := 2) ?hd (cs := #[.int .i64 v.f0, .bool v.f1, .int .i64 v.f2, .string v.f3, .slice A4 v.f4.length c4, .slice A5 v.f5.length c5]) (t := 25) ?hr ?_; (case hd => rfl); (case hg => rfl); (case hr => first | (go_simp; done) | (go_simp; rfl)); intro bv hg_ W1 hbox hb; have n0 := Aside0.mk (HP.out.new hg_ hbox hb); clear HP; have HP := n0; clear n0; clear hg_ hbox hb) | ((with_reducible refine gate_dst (N := 4) rfl ?_); refine box_event ?hg (N := 4) ?hd (cs := #[.int .i64 0, .bool false, .int .i64 0, .string ⟨#[]⟩, .slice none 0 0, .slice none 0 0]) (t := 25) ?hr ?_; (case hd => rfl); (case hg => rfl); (case hr => first | (go_simp; done) | (go_simp; rfl)); intro br hg_ W2 hbox hb; have n0 := Aside0.mk (HP.out.new hg_ hbox hb); clear HP; have HP := n0; clear n0; clear hg_ hbox hb))
  have yv0 : W2.cell? ⟨bv, 0, none⟩ = some (.int .i64 v.f0) := (blk_cell (HP.out.get 1 rfl) 0).trans rfl
  have yv1 : W2.cell? ⟨bv, 1, none⟩ = some (.bool v.f1) := (blk_cell (HP.out.get 1 rfl) 1).trans rfl
  have yv2 : W2.cell? ⟨bv, 2, none⟩ = some (.int .i64 v.f2) := (blk_cell (HP.out.get 1 rfl) 2).trans rfl
  have yv3 : W2.cell? ⟨bv, 3, none⟩ = some (.string v.f3) := (blk_cell (HP.out.get 1 rfl) 3).trans rfl
  have yv4 : W2.cell? ⟨bv, 4, none⟩ = some (.slice A4 v.f4.length c4) := (blk_cell (HP.out.get 1 rfl) 4).trans rfl
  have yv5 : W2.cell? ⟨bv, 5, none⟩ = some (.slice A5 v.f5.length c5) := (blk_cell (HP.out.get 1 rfl) 5).trans rfl
  by_cases c1 : e1 = 0
  case neg =>
    have H1 := H.out
    rw [if_neg c1] at H1
    injection H1 with H1
    subst H1
    have e1a : (e1 == 0) = false := beq_eq_false_iff_ne.2 c1
    have e1b : (e1 != 0) = true := bne_iff_ne.2 c1
    go_wp2_with ((go_at_call 18; refine (check_calls k v A4 c4 A5 c5 e1 _ (HV.out.below HP.out.B) HC.out).mono ?_; rintro e w5 ⟨rfl, hb⟩; have n0 := Aside0.mk (HP.out.below hb); clear HP; have HP := n0; clear n0; clear hb; have yr0 : w5.cell? ⟨br, 0, none⟩ = some (.int .i64 0) := (blk_cell (HP.out.get 0 rfl) 0).trans rfl; have yr1 : w5.cell? ⟨br, 1, none⟩ = some (.bool false) := (blk_cell (HP.out.get 0 rfl) 1).trans rfl; have yr2 : w5.cell? ⟨br, 2, none⟩ = some (.int .i64 0) := (blk_cell (HP.out.get 0 rfl) 2).trans rfl; have yr3 : w5.cell? ⟨br, 3, none⟩ = some (.string ⟨#[]⟩) := (blk_cell (HP.out.get 0 rfl) 3).trans rfl; have yr4 : w5.cell? ⟨br, 4, none⟩ = some (.slice none 0 0) := (blk_cell (HP.out.get 0 rfl) 4).trans rfl; have yr5 : w5.cell? ⟨br, 5, none⟩ = some (.slice none 0 0) := (blk_cell (HP.out.get 0 rfl) 5).trans rfl; have zr0 := blk_frozen (HP.out.get 0 rfl) 0; have zr1 := blk_frozen (HP.out.get 0 rfl) 1; have zr2 := blk_frozen (HP.out.get 0 rfl) 2; have zr3 := blk_frozen (HP.out.get 0 rfl) 3; have zr4 := blk_frozen (HP.out.get 0 rfl) 4; have zr5 := blk_frozen (HP.out.get 0 rfl) 5))
    refine bodyPost_ret (results_ct rfl _ _ br 25 #[.int .i64 0, .bool false, .int .i64 0, .string ⟨#[]⟩, .slice none 0 0, .slice none 0 0] (0, 0) _ rfl (put6 (HP.out.get 0 rfl) _ _ _ _ _ _) Tryz.underlying25 rfl (by kernel_rfl)) rfl ?_
    exact ⟨none, 0, none, 0, rfl, Rd.nil _ _ _ _ _, put6_below HP.out.B (HP.out.low 0 rfl) _ _ _ _ _ _⟩
  have H1 := H.out
  rw [if_pos c1] at H1
  obtain ⟨⟨l, ok⟩, hst, H1⟩ := Option.bind_eq_some_iff.1 H1
  have HST := Aside0.mk hst
  clear hst H
  have e1a : (e1 == 0) = true := beq_iff_eq.2 c1
  have e1b : (e1 != 0) = false := bne_eq_false_iff_eq.2 c1
  go_upto_region 4 with ((go_at_call 18; refine (check_calls k v A4 c4 A5 c5 e1 _ (HV.out.below HP.out.B) HC.out).mono ?_; rintro e w5 ⟨rfl, hb⟩; have n0 := Aside0.mk (HP.out.below hb); clear HP; have HP := n0; clear n0; clear hb))
  cases ok with
  | false =>
    rw [if_neg (fun h_ => by cases h_)] at H1
    injection H1 with H1
    subst H1
    go_wp2_with ((go_at_call 19; refine (steps_calls k route false l _ _ HST.out).mono ?_; rintro e w6 ⟨A1, k1, rfl, hC, hlk, hb⟩; have HL := Aside0.mk hC; have HLK := Aside0.mk hlk; have n0 := Aside0.mk (HP.out.below hb); clear HP; have HP := n0; clear n0; clear hb hC hlk; have yr0 : w6.cell? ⟨br, 0, none⟩ = some (.int .i64 0) := (blk_cell (HP.out.get 0 rfl) 0).trans rfl; have yr1 : w6.cell? ⟨br, 1, none⟩ = some (.bool false) := (blk_cell (HP.out.get 0 rfl) 1).trans rfl; have yr2 : w6.cell? ⟨br, 2, none⟩ = some (.int .i64 0) := (blk_cell (HP.out.get 0 rfl) 2).trans rfl; have yr3 : w6.cell? ⟨br, 3, none⟩ = some (.string ⟨#[]⟩) := (blk_cell (HP.out.get 0 rfl) 3).trans rfl; have yr4 : w6.cell? ⟨br, 4, none⟩ = some (.slice none 0 0) := (blk_cell (HP.out.get 0 rfl) 4).trans rfl; have yr5 : w6.cell? ⟨br, 5, none⟩ = some (.slice none 0 0) := (blk_cell (HP.out.get 0 rfl) 5).trans rfl; have zr0 := blk_frozen (HP.out.get 0 rfl) 0; have zr1 := blk_frozen (HP.out.get 0 rfl) 1; have zr2 := blk_frozen (HP.out.get 0 rfl) 2; have zr3 := blk_frozen (HP.out.get 0 rfl) 3; have zr4 := blk_frozen (HP.out.get 0 rfl) 4; have zr5 := blk_frozen (HP.out.get 0 rfl) 5))
    refine bodyPost_ret (results_ct rfl _ _ br 25 #[.int .i64 0, .bool false, .int .i64 0, .string ⟨#[]⟩, .slice none 0 0, .slice none 0 0] (0, 0) _ rfl (put6 (HP.out.get 0 rfl) _ _ _ _ _ _) Tryz.underlying25 rfl (by kernel_rfl)) rfl ?_
    exact ⟨none, 0, none, 0, rfl, Rd.nil _ _ _ _ _, put6_below HP.out.B (HP.out.low 0 rfl) _ _ _ _ _ _⟩
  | true =>
    rw [if_pos rfl] at H1
    obtain ⟨⟨g, ok⟩, hg, H1⟩ := Option.bind_eq_some_iff.1 H1
    have HG := Aside0.mk hg
    clear hg
    go_upto_region 7 with ((go_at_call 19; refine (steps_calls k route false l _ _ HST.out).mono ?_; rintro e w6 ⟨A1, k1, rfl, hC, hlk, hb⟩; have HL := Aside0.mk hC; have HLK := Aside0.mk hlk; have n0 := Aside0.mk (HP.out.below hb); clear HP; have HP := n0; clear n0; clear hb hC hlk; have yu0 : w6.cell? ⟨bv, 0, none⟩ = some (.int .i64 v.f0) := (blk_cell (HP.out.get 1 rfl) 0).trans rfl; have yu1 : w6.cell? ⟨bv, 1, none⟩ = some (.bool v.f1) := (blk_cell (HP.out.get 1 rfl) 1).trans rfl; have yu2 : w6.cell? ⟨bv, 2, none⟩ = some (.int .i64 v.f2) := (blk_cell (HP.out.get 1 rfl) 2).trans rfl; have yu3 : w6.cell? ⟨bv, 3, none⟩ = some (.string v.f3) := (blk_cell (HP.out.get 1 rfl) 3).trans rfl; have yu4 : w6.cell? ⟨bv, 4, none⟩ = some (.slice A4 v.f4.length c4) := (blk_cell (HP.out.get 1 rfl) 4).trans rfl; have yu5 : w6.cell? ⟨bv, 5, none⟩ = some (.slice A5 v.f5.length c5) := (blk_cell (HP.out.get 1 rfl) 5).trans rfl))
    go_upto_region 8 with (first | (go_at_call 23; refine (get_calls l v A4 c4 A5 c5 A1 k1 (g, ok) _ (fun k => k < w.heap.size) (HV.out.F.below HP.out.B) HL.out HLK.out HG.out).mono ?_; rintro e w7 ⟨G4, g4, G5, g5, rfl, hro, hb⟩; have HR := Aside0.mk hro; have n0 := Aside0.mk (HP.out.below hb); clear HP; have HP := n0; clear n0; clear hb hro) | ((with_reducible refine gate_dst (N := 9) rfl ?_); refine box_event ?hg (N := 9) ?hd (cs := #[.int .i64 0, .bool false, .int .i64 0, .string ⟨#[]⟩, .slice none 0 0, .slice none 0 0]) (t := 25) ?hr ?_; (case hd => rfl); (case hg => rfl); (case hr => first | (go_simp; done) | (go_simp; rfl)); intro bg hg_ w8 hbox hb; have n0 := Aside0.mk (HP.out.new hg_ hbox hb); have n1 := Aside0.mk (HR.out.below hb); clear HP HR; have HP := n0; have HR := n1; clear n0 n1; clear hg_ hbox hb; have yg0 : w8.cell? ⟨bg, 0, none⟩ = some (.int .i64 0) := (blk_cell (HP.out.get 0 rfl) 0).trans rfl; have yg1 : w8.cell? ⟨bg, 1, none⟩ = some (.bool false) := (blk_cell (HP.out.get 0 rfl) 1).trans rfl; have yg2 : w8.cell? ⟨bg, 2, none⟩ = some (.int .i64 0) := (blk_cell (HP.out.get 0 rfl) 2).trans rfl; have yg3 : w8.cell? ⟨bg, 3, none⟩ = some (.string ⟨#[]⟩) := (blk_cell (HP.out.get 0 rfl) 3).trans rfl; have yg4 : w8.cell? ⟨bg, 4, none⟩ = some (.slice none 0 0) := (blk_cell (HP.out.get 0 rfl) 4).trans rfl; have yg5 : w8.cell? ⟨bg, 5, none⟩ = some (.slice none 0 0) := (blk_cell (HP.out.get 0 rfl) 5).trans rfl; have zg0 := blk_frozen (HP.out.get 0 rfl) 0; have zg1 := blk_frozen (HP.out.get 0 rfl) 1; have zg2 := blk_frozen (HP.out.get 0 rfl) 2; have zg3 := blk_frozen (HP.out.get 0 rfl) 3; have zg4 := blk_frozen (HP.out.get 0 rfl) 4; have zg5 := blk_frozen (HP.out.get 0 rfl) 5))
    have n0 := Aside0.mk (HP.out.six 0 rfl (.int .i64 g.f0) (.bool g.f1) (.int .i64 g.f2) (.string g.f3) (.slice G4 g.f4.length g4) (.slice G5 g.f5.length g5))
    have n1 := Aside0.mk (HR.out.six (g := bg) (fun k hk => by have := HP.out.low 0 rfl; omega) (.int .i64 g.f0) (.bool g.f1) (.int .i64 g.f2) (.string g.f3) (.slice G4 g.f4.length g4) (.slice G5 g.f5.length g5))
    clear HP HR
    have HP := n0
    have HR := n1
    clear n0 n1
    clear yg0 zg0 yu0 yv0 yg1 zg1 yu1 yv1 yg2 zg2 yu2 yv2 yg3 zg3 yu3 yv3 yg4 zg4 yu4 yv4 yg5 zg5 yu5 yv5
    generalize ((((((w8.setCell ⟨bg, 0, none⟩ (.int .i64 g.f0)).setCell ⟨bg, 1, none⟩ (.bool g.f1)).setCell ⟨bg, 2, none⟩ (.int .i64 g.f2)).setCell ⟨bg, 3, none⟩ (.string g.f3)).setCell ⟨bg, 4, none⟩ (.slice G4 g.f4.length g4)).setCell ⟨bg, 5, none⟩ (.slice G5 g.f5.length g5)) = w9 at HP HR ⊢
    cases ok with
    | false =>
      rw [if_neg (fun h_ => by cases h_)] at H1
      injection H1 with H1
      subst H1
      have yr0 : w9.cell? ⟨br, 0, none⟩ = some (.int .i64 0) := (blk_cell (HP.out.get 1 rfl) 0).trans rfl
      have yr1 : w9.cell? ⟨br, 1, none⟩ = some (.bool false) := (blk_cell (HP.out.get 1 rfl) 1).trans rfl
      have yr2 : w9.cell? ⟨br, 2, none⟩ = some (.int .i64 0) := (blk_cell (HP.out.get 1 rfl) 2).trans rfl
      have yr3 : w9.cell? ⟨br, 3, none⟩ = some (.string ⟨#[]⟩) := (blk_cell (HP.out.get 1 rfl) 3).trans rfl
      have yr4 : w9.cell? ⟨br, 4, none⟩ = some (.slice none 0 0) := (blk_cell (HP.out.get 1 rfl) 4).trans rfl
      have yr5 : w9.cell? ⟨br, 5, none⟩ = some (.slice none 0 0) := (blk_cell (HP.out.get 1 rfl) 5).trans rfl
      have zr0 := blk_frozen (HP.out.get 1 rfl) 0
      have zr1 := blk_frozen (HP.out.get 1 rfl) 1
      have zr2 := blk_frozen (HP.out.get 1 rfl) 2
      have zr3 := blk_frozen (HP.out.get 1 rfl) 3
      have zr4 := blk_frozen (HP.out.get 1 rfl) 4
      have zr5 := blk_frozen (HP.out.get 1 rfl) 5
      go_wp2_with (fail)
      refine bodyPost_ret (results_ct rfl _ _ br 25 #[.int .i64 0, .bool false, .int .i64 0, .string ⟨#[]⟩, .slice none 0 0, .slice none 0 0] (0, 0) _ rfl (put6 (HP.out.get 1 rfl) _ _ _ _ _ _) Tryz.underlying25 rfl (by kernel_rfl)) rfl ?_
      exact ⟨none, 0, none, 0, rfl, Rd.nil _ _ _ _ _, put6_below HP.out.B (HP.out.low 1 rfl) _ _ _ _ _ _⟩
    | true =>
      rw [if_pos rfl] at H1
      obtain ⟨c, hcl, H1⟩ := Option.bind_eq_some_iff.1 H1
      injection H1 with H1
      subst H1
      have HCL := Aside0.mk hcl
      clear hcl
      have yh0 : w9.cell? ⟨bg, 0, none⟩ = some (.int .i64 g.f0) := (blk_cell (HP.out.get 0 rfl) 0).trans rfl
      have yh1 : w9.cell? ⟨bg, 1, none⟩ = some (.bool g.f1) := (blk_cell (HP.out.get 0 rfl) 1).trans rfl
      have yh2 : w9.cell? ⟨bg, 2, none⟩ = some (.int .i64 g.f2) := (blk_cell (HP.out.get 0 rfl) 2).trans rfl
      have yh3 : w9.cell? ⟨bg, 3, none⟩ = some (.string g.f3) := (blk_cell (HP.out.get 0 rfl) 3).trans rfl
      have yh4 : w9.cell? ⟨bg, 4, none⟩ = some (.slice G4 g.f4.length g4) := (blk_cell (HP.out.get 0 rfl) 4).trans rfl
      have yh5 : w9.cell? ⟨bg, 5, none⟩ = some (.slice G5 g.f5.length g5) := (blk_cell (HP.out.get 0 rfl) 5).trans rfl
      go_wp2_with ((go_at_call 21; refine (clone_calls k g G4 g4 G5 g5 c _ HR.out.now HCL.out).mono ?_; rintro e wa ⟨J4, j4, J5, j5, rfl, hr, hb⟩; have LT := Aside0.mk (HP.out.lt 1 rfl); have SZ := Aside0.mk HP.out.size; have n0 := Aside0.mk (HP.out.below hb); clear HP; have HP := n0; clear n0; have HR2 := Aside0.mk hr; clear hb hr; have yr0 : wa.cell? ⟨br, 0, none⟩ = some (.int .i64 0) := (blk_cell (HP.out.get 1 rfl) 0).trans rfl; have yr1 : wa.cell? ⟨br, 1, none⟩ = some (.bool false) := (blk_cell (HP.out.get 1 rfl) 1).trans rfl; have yr2 : wa.cell? ⟨br, 2, none⟩ = some (.int .i64 0) := (blk_cell (HP.out.get 1 rfl) 2).trans rfl; have yr3 : wa.cell? ⟨br, 3, none⟩ = some (.string ⟨#[]⟩) := (blk_cell (HP.out.get 1 rfl) 3).trans rfl; have yr4 : wa.cell? ⟨br, 4, none⟩ = some (.slice none 0 0) := (blk_cell (HP.out.get 1 rfl) 4).trans rfl; have yr5 : wa.cell? ⟨br, 5, none⟩ = some (.slice none 0 0) := (blk_cell (HP.out.get 1 rfl) 5).trans rfl; have zr0 := blk_frozen (HP.out.get 1 rfl) 0; have zr1 := blk_frozen (HP.out.get 1 rfl) 1; have zr2 := blk_frozen (HP.out.get 1 rfl) 2; have zr3 := blk_frozen (HP.out.get 1 rfl) 3; have zr4 := blk_frozen (HP.out.get 1 rfl) 4; have zr5 := blk_frozen (HP.out.get 1 rfl) 5))
      refine bodyPost_ret (results_ct rfl _ _ br 25 #[.int .i64 c.f0, .bool c.f1, .int .i64 c.f2, .string c.f3, .slice J4 c.f4.length j4, .slice J5 c.f5.length j5] (0, 0) _ rfl (put6 (HP.out.get 1 rfl) _ _ _ _ _ _) Tryz.underlying25 rfl (by kernel_rfl)) rfl ?_
      exact ⟨J4, j4, J5, j5, rfl, (HR2.out.six (g := br) (fun k hk => by have := LT.out; omega) (.int .i64 c.f0) (.bool c.f1) (.int .i64 c.f2) (.string c.f3) (.slice J4 c.f4.length j4) (.slice J5 c.f5.length j5)).now, put6_below HP.out.B (HP.out.low 1 rfl) _ _ _ _ _ _⟩
def chk (k : Nat) (l : List S25) : Nat → Nat → Option Int
  | 0, _ => some 0
  | m + 1, i => (Fck k (rd_T25 l (i : Int))).bind fun e => if e = 0 then chk k l m (i + 1) else some e
def cSet3 (k : Nat) (y : S25) (e : Int) : Option (S25 × Int) := if e = 0 then (Fcl k y).bind fun c => some (c, 0) else some (z25, e)
def cSet2 (k : Nat) (v : S25) (route : ByteArray) (x : S25) : Option (S25 × Int) :=
  (conf_steps.f k route false).bind fun st => if st.2 = true then (cset st.1 v x).bind fun y => if y.2 = 0 then (Fck k y.1).bind fun e => cSet3 k y.1 e else some (z25, y.2) else some (z25, 3)
def cSet (k : Nat) (v : S25) (route : ByteArray) (x : S25) : Option (S25 × Int) := (chk k [v, x] 2 0).bind fun e => if e = 0 then cSet2 k v route x else some (z25, e)
theorem below_none {W W1 : World} (h : W.grownBy W1 none) : Below W.heap.size W W1 := ⟨h.os, h.tape, h.output, h.size, fun k hk => h.block k hk (by simp)⟩
set_option maxHeartbeats 4000000 in
set_option maxRecDepth 100000 in
theorem Set_callsF (k : Nat) (v : S25) (A4 : Option Addr) (c4 : Nat) (A5 : Option Addr) (c5 : Nat) (route : ByteArray) (x : S25) (B4 : Option Addr) (d4 : Nat) (B5 : Option Addr) (d5 : Nat) (r : S25 × Int) (w : World) (hv : Rd w v A4 c4 A5 c5) (hx : Rd w x B4 d4 B5 d5) (h : cSet k v route x = some r) :
    Calls Tryz.prog 8 #[.agg #[.int .i64 v.f0, .bool v.f1, .int .i64 v.f2, .string v.f3, .slice A4 v.f4.length c4, .slice A5 v.f5.length c5], .string route, .agg #[.int .i64 x.f0, .bool x.f1, .int .i64 x.f2, .string x.f3, .slice B4 x.f4.length d4, .slice B5 x.f5.length d5]] w fun e w' => ∃ E4 e4 E5 e5, e = .returned (.tuple #[.agg #[.int .i64 r.1.f0, .bool r.1.f1, .int .i64 r.1.f2, .string r.1.f3, .slice E4 r.1.f4.length e4, .slice E5 r.1.f5.length e5], .int .i64 r.2]) ∧ RdF w' (fun k => w.heap.size ≤ k) r.1 E4 e4 E5 e5 ∧ Below w.heap.size w w' := by
  have hu25 := Tryz.underlying25
  have HV := Aside0.mk hv
  have HX := Aside0.mk hx
  have HP := Aside0.mk (Bs.nil w)
  unfold cSet at h
  have H := Aside0.mk h
  clear hv hx h
  go_enter Tryz.func8, Tryz.ntmps8
  go_upto_region 1 with (first | ((with_reducible refine gate_dst (N := 3) rfl ?_); refine box_event ?hg (N := 3) ?hd (cs := #[.int .i64 v.f0, .bool v.f1, .int .i64 v.f2, .string v.f3, .slice A4 v.f4.length c4, .slice A5 v.f5.length c5]) (t := 25) ?hr ?_; (case hd => rfl); (case hg => rfl); (case hr => first | (go_simp; done) | (go_simp; rfl)); intro bv hg_ W1 hbox hb; have n0 := Aside0.mk (HP.out.new hg_ hbox hb); clear HP; have HP := n0; clear n0; clear hg_ hbox hb) | ((with_reducible refine gate_dst (N := 5) rfl ?_); refine box_event ?hg (N := 5) ?hd (cs := #[.int .i64 x.f0, .bool x.f1, .int .i64 x.f2, .string x.f3, .slice B4 x.f4.length d4, .slice B5 x.f5.length d5]) (t := 25) ?hr ?_; (case hd => rfl); (case hg => rfl); (case hr => first | (go_simp; done) | (go_simp; rfl)); intro bx hg_ W2 hbox hb; have n0 := Aside0.mk (HP.out.new hg_ hbox hb); clear HP; have HP := n0; clear n0; clear hg_ hbox hb) | ((with_reducible refine gate_dst (N := 6) rfl ?_); refine box_event ?hg (N := 6) ?hd (cs := #[.int .i64 0, .bool false, .int .i64 0, .string ⟨#[]⟩, .slice none 0 0, .slice none 0 0]) (t := 25) ?hr ?_; (case hd => rfl); (case hg => rfl); (case hr => first | (go_simp; done) | (go_simp; rfl)); intro br hg_ W3 hbox hb; have n0 := Aside0.mk (HP.out.new hg_ hbox hb); clear HP; have HP := n0; clear n0; clear hg_ hbox hb))
  have yv0 : W3.cell? ⟨bv, 0, none⟩ = some (.int .i64 v.f0) := (blk_cell (HP.out.get 2 rfl) 0).trans rfl
  have yv1 : W3.cell? ⟨bv, 1, none⟩ = some (.bool v.f1) := (blk_cell (HP.out.get 2 rfl) 1).trans rfl
  have yv2 : W3.cell? ⟨bv, 2, none⟩ = some (.int .i64 v.f2) := (blk_cell (HP.out.get 2 rfl) 2).trans rfl
  have yv3 : W3.cell? ⟨bv, 3, none⟩ = some (.string v.f3) := (blk_cell (HP.out.get 2 rfl) 3).trans rfl
  have yv4 : W3.cell? ⟨bv, 4, none⟩ = some (.slice A4 v.f4.length c4) := (blk_cell (HP.out.get 2 rfl) 4).trans rfl
  have yv5 : W3.cell? ⟨bv, 5, none⟩ = some (.slice A5 v.f5.length c5) := (blk_cell (HP.out.get 2 rfl) 5).trans rfl
  have yx0 : W3.cell? ⟨bx, 0, none⟩ = some (.int .i64 x.f0) := (blk_cell (HP.out.get 1 rfl) 0).trans rfl
  have yx1 : W3.cell? ⟨bx, 1, none⟩ = some (.bool x.f1) := (blk_cell (HP.out.get 1 rfl) 1).trans rfl
  have yx2 : W3.cell? ⟨bx, 2, none⟩ = some (.int .i64 x.f2) := (blk_cell (HP.out.get 1 rfl) 2).trans rfl
  have yx3 : W3.cell? ⟨bx, 3, none⟩ = some (.string x.f3) := (blk_cell (HP.out.get 1 rfl) 3).trans rfl
  have yx4 : W3.cell? ⟨bx, 4, none⟩ = some (.slice B4 x.f4.length d4) := (blk_cell (HP.out.get 1 rfl) 4).trans rfl
  have yx5 : W3.cell? ⟨bx, 5, none⟩ = some (.slice B5 x.f5.length d5) := (blk_cell (HP.out.get 1 rfl) 5).trans rfl
  go_wp2_with (((with_reducible refine gate_dst (N := 17) rfl ?_); refine Kd.N_lit k25 (w0 := W3) 0 25 ?hg (N' := 17) ?hd (xs := ([v, x] : List S25)) (inner := [.int .i64 v.f0, .bool v.f1, .int .i64 v.f2, .string v.f3, .slice A4 v.f4.length c4, .slice A5 v.f5.length c5, .int .i64 x.f0, .bool x.f1, .int .i64 x.f2, .string x.f3, .slice B4 x.f4.length d4, .slice B5 x.f5.length d5]) (ok := fun _ => True) (okp := fun _ => True) ?hr ?hp (fun _ _ => trivial) trivial (Below.refl _ _) (Nat.zero_le _) (by simp) ?_; (case hd => rfl); (case hg => rfl); (case hr => first | (go_simp; done) | (go_simp; rfl)); (case hp => exact (Reps.c6 (show Kd.FK k25 _ _ v [.int .i64 v.f0, .bool v.f1, .int .i64 v.f2, .string v.f3, .slice A4 v.f4.length c4, .slice A5 v.f5.length c5] from k25_mkF _ _ v (HV.out.F.below HP.out.B).2.1 (Kd.F_mono (HV.out.F.below HP.out.B).1 (fun _ _ => trivial)) (HV.out.F.below HP.out.B).2.2.2 (Kd.F_mono (HV.out.F.below HP.out.B).2.2.1 (fun _ _ => trivial))) (Reps.c6 (show Kd.FK k25 _ _ x [.int .i64 x.f0, .bool x.f1, .int .i64 x.f2, .string x.f3, .slice B4 x.f4.length d4, .slice B5 x.f5.length d5] from k25_mkF _ _ x (HX.out.F.below HP.out.B).2.1 (Kd.F_mono (HX.out.F.below HP.out.B).1 (fun _ _ => trivial)) (HX.out.F.below HP.out.B).2.2.2 (Kd.F_mono (HX.out.F.below HP.out.B).2.2.1 (fun _ _ => trivial))) (Reps.none _ _)))); intro vl w4 ho hb_ hg_ _; have hb := below_none hg_; obtain ⟨Al, cl, rfl⟩ := Kd.V_slice (Kd.N_V (base' := 0) ho); have HF := Aside0.mk (Kd.V_F (Kd.N_V (base' := 0) ho)); have n0 := Aside0.mk (HP.out.below hb); clear HP; have HP := n0; clear n0; clear hb hb_ hg_ ho))
  clear yv0 yx0 yv1 yx1 yv2 yx2 yv3 yx3 yv4 yx4 yv5 yx5
  go_loopg [19] 2 (fun kq v19 w' => ∃ (ii : Int) (i : Nat), v19 = .int .i64 ii ∧ Aside0 (ii = (i : Int)) ∧ Aside0 (i + kq = 2) ∧ Aside0 ((chk k [v, x] kq i).bind (fun e => if e = 0 then cSet2 k v route x else some (z25, e)) = some r) ∧ Aside0 (Kd.F k25 w' (fun _ => True) Al [v, x].length [v, x]) ∧ Aside0 (Bs w w' [(br, #[.int .i64 0, .bool false, .int .i64 0, .string ⟨#[]⟩, .slice none 0 0, .slice none 0 0], 25), (bx, #[.int .i64 x.f0, .bool x.f1, .int .i64 x.f2, .string x.f3, .slice B4 x.f4.length d4, .slice B5 x.f5.length d5], 25), (bv, #[.int .i64 v.f0, .bool v.f1, .int .i64 v.f2, .string v.f3, .slice A4 v.f4.length c4, .slice A5 v.f5.length c5], 25)]))
  case atStart => exact ⟨0, 0, rfl, ⟨rfl⟩, ⟨rfl⟩, H, HF, HP⟩
  case round =>
    clear HP H HF
    obtain ⟨ii, i, rfl, HII, HI, H, HF, HP⟩ := hrel
    have hlen : ([v, x] : List S25).length = 2 := rfl
    cases gk with
    | zero =>
      have e0 : decide (ii < (2 : Int)) = false := decide_eq_false (by have := HII.out; have := HI.out; omega)
      have e0' : decide (ii < (([v, x] : List S25).length : Int)) = false := e0
      have H1 := H.out
      rw [chk, Option.bind_some, if_pos rfl, cSet2] at H1
      obtain ⟨⟨l, ok⟩, hst, H1⟩ := Option.bind_eq_some_iff.1 H1
      have HST := Aside0.mk hst
      clear hst H HF
      cases ok with
      | false =>
        rw [if_neg (fun h_ => by cases h_)] at H1
        injection H1 with H1
        subst H1
        go_wp2_with ((go_at_call 19; refine (steps_calls k route false l _ _ HST.out).mono ?_; rintro e w6 ⟨A1, k1, rfl, hC, hlk, hb⟩; have HL := Aside0.mk hC; have HLK := Aside0.mk hlk; have n0 := Aside0.mk (HP.out.below hb); clear HP; have HP := n0; clear n0; clear hb hC hlk; have yr0 : w6.cell? ⟨br, 0, none⟩ = some (.int .i64 0) := (blk_cell (HP.out.get 0 rfl) 0).trans rfl; have yr1 : w6.cell? ⟨br, 1, none⟩ = some (.bool false) := (blk_cell (HP.out.get 0 rfl) 1).trans rfl; have yr2 : w6.cell? ⟨br, 2, none⟩ = some (.int .i64 0) := (blk_cell (HP.out.get 0 rfl) 2).trans rfl; have yr3 : w6.cell? ⟨br, 3, none⟩ = some (.string ⟨#[]⟩) := (blk_cell (HP.out.get 0 rfl) 3).trans rfl; have yr4 : w6.cell? ⟨br, 4, none⟩ = some (.slice none 0 0) := (blk_cell (HP.out.get 0 rfl) 4).trans rfl; have yr5 : w6.cell? ⟨br, 5, none⟩ = some (.slice none 0 0) := (blk_cell (HP.out.get 0 rfl) 5).trans rfl; have zr0 := blk_frozen (HP.out.get 0 rfl) 0; have zr1 := blk_frozen (HP.out.get 0 rfl) 1; have zr2 := blk_frozen (HP.out.get 0 rfl) 2; have zr3 := blk_frozen (HP.out.get 0 rfl) 3; have zr4 := blk_frozen (HP.out.get 0 rfl) 4; have zr5 := blk_frozen (HP.out.get 0 rfl) 5))
        refine bodyPost_ret (results_ct rfl _ _ br 25 #[.int .i64 0, .bool false, .int .i64 0, .string ⟨#[]⟩, .slice none 0 0, .slice none 0 0] (0, 0) _ rfl (put6 (HP.out.get 0 rfl) _ _ _ _ _ _) Tryz.underlying25 rfl (by kernel_rfl)) rfl ?_
        exact ⟨none, 0, none, 0, rfl, RdF.nil _ _ _ _ _ _, put6_below HP.out.B (HP.out.low 0 rfl) _ _ _ _ _ _⟩
      | true =>
        rw [if_pos rfl] at H1
        obtain ⟨⟨y, e2⟩, hy, H1⟩ := Option.bind_eq_some_iff.1 H1
        have HY := Aside0.mk hy
        clear hy
        dsimp only at H1
        go_upto_region 11 with ((go_at_call 19; refine (steps_calls k route false l _ _ HST.out).mono ?_; rintro e w6 ⟨A1, k1, rfl, hC, hlk, hb⟩; have HL := Aside0.mk hC; have HLK := Aside0.mk hlk; have n0 := Aside0.mk (HP.out.below hb); clear HP; have HP := n0; clear n0; clear hb hC hlk; have yu0 : w6.cell? ⟨bv, 0, none⟩ = some (.int .i64 v.f0) := (blk_cell (HP.out.get 2 rfl) 0).trans rfl; have yu1 : w6.cell? ⟨bv, 1, none⟩ = some (.bool v.f1) := (blk_cell (HP.out.get 2 rfl) 1).trans rfl; have yu2 : w6.cell? ⟨bv, 2, none⟩ = some (.int .i64 v.f2) := (blk_cell (HP.out.get 2 rfl) 2).trans rfl; have yu3 : w6.cell? ⟨bv, 3, none⟩ = some (.string v.f3) := (blk_cell (HP.out.get 2 rfl) 3).trans rfl; have yu4 : w6.cell? ⟨bv, 4, none⟩ = some (.slice A4 v.f4.length c4) := (blk_cell (HP.out.get 2 rfl) 4).trans rfl; have yu5 : w6.cell? ⟨bv, 5, none⟩ = some (.slice A5 v.f5.length c5) := (blk_cell (HP.out.get 2 rfl) 5).trans rfl; have yx0 : w6.cell? ⟨bx, 0, none⟩ = some (.int .i64 x.f0) := (blk_cell (HP.out.get 1 rfl) 0).trans rfl; have yx1 : w6.cell? ⟨bx, 1, none⟩ = some (.bool x.f1) := (blk_cell (HP.out.get 1 rfl) 1).trans rfl; have yx2 : w6.cell? ⟨bx, 2, none⟩ = some (.int .i64 x.f2) := (blk_cell (HP.out.get 1 rfl) 2).trans rfl; have yx3 : w6.cell? ⟨bx, 3, none⟩ = some (.string x.f3) := (blk_cell (HP.out.get 1 rfl) 3).trans rfl; have yx4 : w6.cell? ⟨bx, 4, none⟩ = some (.slice B4 x.f4.length d4) := (blk_cell (HP.out.get 1 rfl) 4).trans rfl; have yx5 : w6.cell? ⟨bx, 5, none⟩ = some (.slice B5 x.f5.length d5) := (blk_cell (HP.out.get 1 rfl) 5).trans rfl))
        go_upto_region 12 with (first | (go_at_call 20; refine (set_calls l v A4 c4 A5 c5 A1 k1 x B4 d4 B5 d5 (y, e2) _ (fun k => k < w.heap.size) (HV.out.F.below HP.out.B) HL.out HLK.out (HX.out.F.below HP.out.B) HY.out).mono ?_; rintro e w7 ⟨J4, j4, J5, j5, rfl, hro, hb⟩; have HR := Aside0.mk hro; have n0 := Aside0.mk (HP.out.below hb); clear HP; have HP := n0; clear n0; clear hb hro) | ((with_reducible refine gate_dst (N := 13) rfl ?_); refine box_event ?hg (N := 13) ?hd (cs := #[.int .i64 0, .bool false, .int .i64 0, .string ⟨#[]⟩, .slice none 0 0, .slice none 0 0]) (t := 25) ?hr ?_; (case hd => rfl); (case hg => rfl); (case hr => first | (go_simp; done) | (go_simp; rfl)); intro bg hg_ w8 hbox hb; have n0 := Aside0.mk (HP.out.new hg_ hbox hb); have n1 := Aside0.mk (HR.out.bound.below hb); have n2 := Aside0.mk ((show _ = bg from hg_.symm)); clear HP HR; have HP := n0; have HR := n1; have HGE := n2; clear n0 n1 n2; clear hg_ hbox hb; have yg0 : w8.cell? ⟨bg, 0, none⟩ = some (.int .i64 0) := (blk_cell (HP.out.get 0 rfl) 0).trans rfl; have yg1 : w8.cell? ⟨bg, 1, none⟩ = some (.bool false) := (blk_cell (HP.out.get 0 rfl) 1).trans rfl; have yg2 : w8.cell? ⟨bg, 2, none⟩ = some (.int .i64 0) := (blk_cell (HP.out.get 0 rfl) 2).trans rfl; have yg3 : w8.cell? ⟨bg, 3, none⟩ = some (.string ⟨#[]⟩) := (blk_cell (HP.out.get 0 rfl) 3).trans rfl; have yg4 : w8.cell? ⟨bg, 4, none⟩ = some (.slice none 0 0) := (blk_cell (HP.out.get 0 rfl) 4).trans rfl; have yg5 : w8.cell? ⟨bg, 5, none⟩ = some (.slice none 0 0) := (blk_cell (HP.out.get 0 rfl) 5).trans rfl; have zg0 := blk_frozen (HP.out.get 0 rfl) 0; have zg1 := blk_frozen (HP.out.get 0 rfl) 1; have zg2 := blk_frozen (HP.out.get 0 rfl) 2; have zg3 := blk_frozen (HP.out.get 0 rfl) 3; have zg4 := blk_frozen (HP.out.get 0 rfl) 4; have zg5 := blk_frozen (HP.out.get 0 rfl) 5))
        have n0 := Aside0.mk (HP.out.six 0 rfl (.int .i64 y.f0) (.bool y.f1) (.int .i64 y.f2) (.string y.f3) (.slice J4 y.f4.length j4) (.slice J5 y.f5.length j5))
        have n1 := Aside0.mk (HR.out.six (g := bg) (fun k hk => by have := hk.2; have := HGE.out; omega) (.int .i64 y.f0) (.bool y.f1) (.int .i64 y.f2) (.string y.f3) (.slice J4 y.f4.length j4) (.slice J5 y.f5.length j5))
        clear HP HR
        have HP := n0
        have HR := n1
        clear n0 n1
        clear HGE yg0 zg0 yu0 yx0 yg1 zg1 yu1 yx1 yg2 zg2 yu2 yx2 yg3 zg3 yu3 yx3 yg4 zg4 yu4 yx4 yg5 zg5 yu5 yx5
        generalize ((((((w8.setCell ⟨bg, 0, none⟩ (.int .i64 y.f0)).setCell ⟨bg, 1, none⟩ (.bool y.f1)).setCell ⟨bg, 2, none⟩ (.int .i64 y.f2)).setCell ⟨bg, 3, none⟩ (.string y.f3)).setCell ⟨bg, 4, none⟩ (.slice J4 y.f4.length j4)).setCell ⟨bg, 5, none⟩ (.slice J5 y.f5.length j5)) = w9 at HP HR ⊢
        by_cases c2 : e2 = 0
        case neg =>
          rw [if_neg c2] at H1
          injection H1 with H1
          subst H1
          have e2a : (e2 == 0) = false := beq_eq_false_iff_ne.2 c2
          have e2b : (e2 != 0) = true := bne_iff_ne.2 c2
          have yr0 : w9.cell? ⟨br, 0, none⟩ = some (.int .i64 0) := (blk_cell (HP.out.get 1 rfl) 0).trans rfl
          have yr1 : w9.cell? ⟨br, 1, none⟩ = some (.bool false) := (blk_cell (HP.out.get 1 rfl) 1).trans rfl
          have yr2 : w9.cell? ⟨br, 2, none⟩ = some (.int .i64 0) := (blk_cell (HP.out.get 1 rfl) 2).trans rfl
          have yr3 : w9.cell? ⟨br, 3, none⟩ = some (.string ⟨#[]⟩) := (blk_cell (HP.out.get 1 rfl) 3).trans rfl
          have yr4 : w9.cell? ⟨br, 4, none⟩ = some (.slice none 0 0) := (blk_cell (HP.out.get 1 rfl) 4).trans rfl
          have yr5 : w9.cell? ⟨br, 5, none⟩ = some (.slice none 0 0) := (blk_cell (HP.out.get 1 rfl) 5).trans rfl
          have zr0 := blk_frozen (HP.out.get 1 rfl) 0
          have zr1 := blk_frozen (HP.out.get 1 rfl) 1
          have zr2 := blk_frozen (HP.out.get 1 rfl) 2
          have zr3 := blk_frozen (HP.out.get 1 rfl) 3
          have zr4 := blk_frozen (HP.out.get 1 rfl) 4
          have zr5 := blk_frozen (HP.out.get 1 rfl) 5
          go_wp2_with (fail)
          refine bodyPost_ret (results_ct rfl _ _ br 25 #[.int .i64 0, .bool false, .int .i64 0, .string ⟨#[]⟩, .slice none 0 0, .slice none 0 0] (0, 0) _ rfl (put6 (HP.out.get 1 rfl) _ _ _ _ _ _) Tryz.underlying25 rfl (by kernel_rfl)) rfl ?_
          exact ⟨none, 0, none, 0, rfl, RdF.nil _ _ _ _ _ _, put6_below HP.out.B (HP.out.low 1 rfl) _ _ _ _ _ _⟩
        have e2a : (e2 == 0) = true := beq_iff_eq.2 c2
        have e2b : (e2 != 0) = false := bne_eq_false_iff_eq.2 c2
        rw [if_pos c2] at H1
        obtain ⟨e3, hc3, H1⟩ := Option.bind_eq_some_iff.1 H1
        have HC3 := Aside0.mk hc3
        clear hc3
        rw [cSet3] at H1
        have yh0 : w9.cell? ⟨bg, 0, none⟩ = some (.int .i64 y.f0) := (blk_cell (HP.out.get 0 rfl) 0).trans rfl
        have yh1 : w9.cell? ⟨bg, 1, none⟩ = some (.bool y.f1) := (blk_cell (HP.out.get 0 rfl) 1).trans rfl
        have yh2 : w9.cell? ⟨bg, 2, none⟩ = some (.int .i64 y.f2) := (blk_cell (HP.out.get 0 rfl) 2).trans rfl
        have yh3 : w9.cell? ⟨bg, 3, none⟩ = some (.string y.f3) := (blk_cell (HP.out.get 0 rfl) 3).trans rfl
        have yh4 : w9.cell? ⟨bg, 4, none⟩ = some (.slice J4 y.f4.length j4) := (blk_cell (HP.out.get 0 rfl) 4).trans rfl
        have yh5 : w9.cell? ⟨bg, 5, none⟩ = some (.slice J5 y.f5.length j5) := (blk_cell (HP.out.get 0 rfl) 5).trans rfl
        go_upto_region 14 with ((go_at_call 18; refine (check_calls k y J4 j4 J5 j5 e3 _ HR.out.now HC3.out).mono ?_; rintro e wa ⟨rfl, hb⟩; have n0 := Aside0.mk (HP.out.below hb); clear HP; have HP := n0; clear n0; have n1 := Aside0.mk (HR.out.below hb); clear HR; have HR := n1; clear n1; clear hb))
        clear yh0 yh1 yh2 yh3 yh4 yh5
        by_cases c3 : e3 = 0
        case neg =>
          rw [if_neg c3] at H1
          injection H1 with H1
          subst H1
          have e3a : (e3 == 0) = false := beq_eq_false_iff_ne.2 c3
          have e3b : (e3 != 0) = true := bne_iff_ne.2 c3
          have yr0 : wa.cell? ⟨br, 0, none⟩ = some (.int .i64 0) := (blk_cell (HP.out.get 1 rfl) 0).trans rfl
          have yr1 : wa.cell? ⟨br, 1, none⟩ = some (.bool false) := (blk_cell (HP.out.get 1 rfl) 1).trans rfl
          have yr2 : wa.cell? ⟨br, 2, none⟩ = some (.int .i64 0) := (blk_cell (HP.out.get 1 rfl) 2).trans rfl
          have yr3 : wa.cell? ⟨br, 3, none⟩ = some (.string ⟨#[]⟩) := (blk_cell (HP.out.get 1 rfl) 3).trans rfl
          have yr4 : wa.cell? ⟨br, 4, none⟩ = some (.slice none 0 0) := (blk_cell (HP.out.get 1 rfl) 4).trans rfl
          have yr5 : wa.cell? ⟨br, 5, none⟩ = some (.slice none 0 0) := (blk_cell (HP.out.get 1 rfl) 5).trans rfl
          have zr0 := blk_frozen (HP.out.get 1 rfl) 0
          have zr1 := blk_frozen (HP.out.get 1 rfl) 1
          have zr2 := blk_frozen (HP.out.get 1 rfl) 2
          have zr3 := blk_frozen (HP.out.get 1 rfl) 3
          have zr4 := blk_frozen (HP.out.get 1 rfl) 4
          have zr5 := blk_frozen (HP.out.get 1 rfl) 5
          go_wp2_with (fail)
          refine bodyPost_ret (results_ct rfl _ _ br 25 #[.int .i64 0, .bool false, .int .i64 0, .string ⟨#[]⟩, .slice none 0 0, .slice none 0 0] (0, 0) _ rfl (put6 (HP.out.get 1 rfl) _ _ _ _ _ _) Tryz.underlying25 rfl (by kernel_rfl)) rfl ?_
          exact ⟨none, 0, none, 0, rfl, RdF.nil _ _ _ _ _ _, put6_below HP.out.B (HP.out.low 1 rfl) _ _ _ _ _ _⟩
        have e3a : (e3 == 0) = true := beq_iff_eq.2 c3
        have e3b : (e3 != 0) = false := bne_eq_false_iff_eq.2 c3
        rw [if_pos c3] at H1
        obtain ⟨c, hcl, H1⟩ := Option.bind_eq_some_iff.1 H1
        injection H1 with H1
        subst H1
        have HCL := Aside0.mk hcl
        clear hcl
        have yh0 : wa.cell? ⟨bg, 0, none⟩ = some (.int .i64 y.f0) := (blk_cell (HP.out.get 0 rfl) 0).trans rfl
        have yh1 : wa.cell? ⟨bg, 1, none⟩ = some (.bool y.f1) := (blk_cell (HP.out.get 0 rfl) 1).trans rfl
        have yh2 : wa.cell? ⟨bg, 2, none⟩ = some (.int .i64 y.f2) := (blk_cell (HP.out.get 0 rfl) 2).trans rfl
        have yh3 : wa.cell? ⟨bg, 3, none⟩ = some (.string y.f3) := (blk_cell (HP.out.get 0 rfl) 3).trans rfl
        have yh4 : wa.cell? ⟨bg, 4, none⟩ = some (.slice J4 y.f4.length j4) := (blk_cell (HP.out.get 0 rfl) 4).trans rfl
        have yh5 : wa.cell? ⟨bg, 5, none⟩ = some (.slice J5 y.f5.length j5) := (blk_cell (HP.out.get 0 rfl) 5).trans rfl
        go_wp2_with ((go_at_call 21; refine (clone_calls k y J4 j4 J5 j5 c _ HR.out.now HCL.out).mono ?_; rintro e wb ⟨K4, k4, K5, k5, rfl, hr, hb⟩; have LT := Aside0.mk (HP.out.lt 1 rfl); have SZ := Aside0.mk HP.out.size; have n0 := Aside0.mk (HP.out.below hb); clear HP; have HP := n0; clear n0; have HR2 := Aside0.mk hr; clear hb hr; have yr0 : wb.cell? ⟨br, 0, none⟩ = some (.int .i64 0) := (blk_cell (HP.out.get 1 rfl) 0).trans rfl; have yr1 : wb.cell? ⟨br, 1, none⟩ = some (.bool false) := (blk_cell (HP.out.get 1 rfl) 1).trans rfl; have yr2 : wb.cell? ⟨br, 2, none⟩ = some (.int .i64 0) := (blk_cell (HP.out.get 1 rfl) 2).trans rfl; have yr3 : wb.cell? ⟨br, 3, none⟩ = some (.string ⟨#[]⟩) := (blk_cell (HP.out.get 1 rfl) 3).trans rfl; have yr4 : wb.cell? ⟨br, 4, none⟩ = some (.slice none 0 0) := (blk_cell (HP.out.get 1 rfl) 4).trans rfl; have yr5 : wb.cell? ⟨br, 5, none⟩ = some (.slice none 0 0) := (blk_cell (HP.out.get 1 rfl) 5).trans rfl; have zr0 := blk_frozen (HP.out.get 1 rfl) 0; have zr1 := blk_frozen (HP.out.get 1 rfl) 1; have zr2 := blk_frozen (HP.out.get 1 rfl) 2; have zr3 := blk_frozen (HP.out.get 1 rfl) 3; have zr4 := blk_frozen (HP.out.get 1 rfl) 4; have zr5 := blk_frozen (HP.out.get 1 rfl) 5))
        refine bodyPost_ret (results_ct rfl _ _ br 25 #[.int .i64 c.f0, .bool c.f1, .int .i64 c.f2, .string c.f3, .slice K4 c.f4.length k4, .slice K5 c.f5.length k5] (0, 0) _ rfl (put6 (HP.out.get 1 rfl) _ _ _ _ _ _) Tryz.underlying25 rfl (by kernel_rfl)) rfl ?_
        exact ⟨K4, k4, K5, k5, rfl, (HR2.out.six (g := br) (fun k hk => by have := LT.out; omega) (.int .i64 c.f0) (.bool c.f1) (.int .i64 c.f2) (.string c.f3) (.slice K4 c.f4.length k4) (.slice K5 c.f5.length k5)).mono (fun k hk => Nat.le_trans SZ.out hk), put6_below HP.out.B (HP.out.low 1 rfl) _ _ _ _ _ _⟩
    | succ k1 =>
      have H1 := H.out
      clear H
      rw [chk] at H1
      obtain ⟨e0, H1, H2⟩ := Option.bind_eq_some_iff.1 H1
      obtain ⟨e1, hck, H1⟩ := Option.bind_eq_some_iff.1 H1
      have HC := Aside0.mk hck
      clear hck
      have p0 : 0 ≤ ii := by have := HII.out; omega
      have p1 : ii < (([v, x] : List S25).length : Int) := by have := HII.out; have := HI.out; rw [hlen]; omega
      have q0 : decide (ii < (2 : Int)) = true := decide_eq_true p1
      have q0' : decide (ii < (([v, x] : List S25).length : Int)) = true := decide_eq_true p1
      have q1 : decide (0 ≤ ii) = true := decide_eq_true p0
      obtain ⟨ad, F4, f4, F5, f5, e_, x0, x1, x2, x3, x4, x5, hrd⟩ := at_F25 HF.out ii p0 p1
      cases e_
      have RD := Aside0.mk hrd
      clear hrd
      rw [← HII.out] at HC
      obtain ⟨z, hz⟩ : ∃ z, z = rd_T25 [v, x] ii := ⟨_, rfl⟩
      rw [← hz] at x0 x1 x2 x3 x4 x5 RD HC
      clear hz
      have p2 : ii < (2 : Int) := p1
      replace p0 := eq_true p0
      replace p1 := eq_true p1
      replace p2 := eq_true p2
      go_upto_region 4 with (((with_reducible refine gate_dst (N := 9) rfl ?_); refine box_event ?hg (N := 9) ?hd (cs := #[.int .i64 0, .bool false, .int .i64 0, .string ⟨#[]⟩, .slice none 0 0, .slice none 0 0]) (t := 25) ?hr ?_; (case hd => rfl); (case hg => rfl); (case hr => first | (go_simp; done) | (go_simp; rfl)); intro bg hg_ w5 hbox hb; have n0 := Aside0.mk (HP.out.new hg_ hbox hb); have n1 := Aside0.mk (RD.out.bound.below hb); have n2 := Aside0.mk (Kd.F_below (Kd.F_bound HF.out) hb); have n3 := Aside0.mk ((show _ = bg from hg_.symm)); clear HP RD HF; have HP := n0; have RD := n1; have HF := n2; have HGE := n3; clear n0 n1 n2 n3; clear hg_ hbox hb; have yg0 : w5.cell? ⟨bg, 0, none⟩ = some (.int .i64 0) := (blk_cell (HP.out.get 0 rfl) 0).trans rfl; have yg1 : w5.cell? ⟨bg, 1, none⟩ = some (.bool false) := (blk_cell (HP.out.get 0 rfl) 1).trans rfl; have yg2 : w5.cell? ⟨bg, 2, none⟩ = some (.int .i64 0) := (blk_cell (HP.out.get 0 rfl) 2).trans rfl; have yg3 : w5.cell? ⟨bg, 3, none⟩ = some (.string ⟨#[]⟩) := (blk_cell (HP.out.get 0 rfl) 3).trans rfl; have yg4 : w5.cell? ⟨bg, 4, none⟩ = some (.slice none 0 0) := (blk_cell (HP.out.get 0 rfl) 4).trans rfl; have yg5 : w5.cell? ⟨bg, 5, none⟩ = some (.slice none 0 0) := (blk_cell (HP.out.get 0 rfl) 5).trans rfl; have zg0 := blk_frozen (HP.out.get 0 rfl) 0; have zg1 := blk_frozen (HP.out.get 0 rfl) 1; have zg2 := blk_frozen (HP.out.get 0 rfl) 2; have zg3 := blk_frozen (HP.out.get 0 rfl) 3; have zg4 := blk_frozen (HP.out.get 0 rfl) 4; have zg5 := blk_frozen (HP.out.get 0 rfl) 5))
      have n0 := Aside0.mk (HP.out.six 0 rfl (.int .i64 z.f0) (.bool z.f1) (.int .i64 z.f2) (.string z.f3) (.slice F4 z.f4.length f4) (.slice F5 z.f5.length f5))
      have n1 := Aside0.mk (RD.out.six (g := bg) (fun k hk => by have := hk.2; have := HGE.out; omega) (.int .i64 z.f0) (.bool z.f1) (.int .i64 z.f2) (.string z.f3) (.slice F4 z.f4.length f4) (.slice F5 z.f5.length f5))
      have n2 := Aside0.mk (Kd.F_mono (Kd.F_step HF.out (fun k hk hlt => six_same (g := bg) (by have := hk.2; have := HGE.out; omega) hlt (.int .i64 z.f0) (.bool z.f1) (.int .i64 z.f2) (.string z.f3) (.slice F4 z.f4.length f4) (.slice F5 z.f5.length f5))) (fun _ _ => trivial))
      clear HP RD HF
      have HP := n0
      have RD := n1
      have HF := n2
      clear n0 n1 n2
      clear HGE yg0 zg0 x0 yg1 zg1 x1 yg2 zg2 x2 yg3 zg3 x3 yg4 zg4 x4 yg5 zg5 x5
      generalize ((((((w5.setCell ⟨bg, 0, none⟩ (.int .i64 z.f0)).setCell ⟨bg, 1, none⟩ (.bool z.f1)).setCell ⟨bg, 2, none⟩ (.int .i64 z.f2)).setCell ⟨bg, 3, none⟩ (.string z.f3)).setCell ⟨bg, 4, none⟩ (.slice F4 z.f4.length f4)).setCell ⟨bg, 5, none⟩ (.slice F5 z.f5.length f5)) = w6 at HP RD HF ⊢
      have yh0 : w6.cell? ⟨bg, 0, none⟩ = some (.int .i64 z.f0) := (blk_cell (HP.out.get 0 rfl) 0).trans rfl
      have yh1 : w6.cell? ⟨bg, 1, none⟩ = some (.bool z.f1) := (blk_cell (HP.out.get 0 rfl) 1).trans rfl
      have yh2 : w6.cell? ⟨bg, 2, none⟩ = some (.int .i64 z.f2) := (blk_cell (HP.out.get 0 rfl) 2).trans rfl
      have yh3 : w6.cell? ⟨bg, 3, none⟩ = some (.string z.f3) := (blk_cell (HP.out.get 0 rfl) 3).trans rfl
      have yh4 : w6.cell? ⟨bg, 4, none⟩ = some (.slice F4 z.f4.length f4) := (blk_cell (HP.out.get 0 rfl) 4).trans rfl
      have yh5 : w6.cell? ⟨bg, 5, none⟩ = some (.slice F5 z.f5.length f5) := (blk_cell (HP.out.get 0 rfl) 5).trans rfl
      go_upto_region 5 with ((go_at_call 18; refine (check_calls k z F4 f4 F5 f5 e1 _ RD.out.now HC.out).mono ?_; rintro e w7 ⟨rfl, hb⟩; have n0 := Aside0.mk (HP.out.below hb); clear HP; have HP := n0; clear n0; have n1 := Aside0.mk (Kd.F_below HF.out hb); clear HF RD; have HF := n1; clear n1 hb))
      clear yh0 yh1 yh2 yh3 yh4 yh5
      by_cases c1 : e1 = 0
      case neg =>
        rw [if_neg c1] at H1
        injection H1 with H1
        subst H1
        rw [if_neg c1] at H2
        injection H2 with H2
        subst H2
        have e1a : (e1 == 0) = false := beq_eq_false_iff_ne.2 c1
        have e1b : (e1 != 0) = true := bne_iff_ne.2 c1
        have yr0 : w7.cell? ⟨br, 0, none⟩ = some (.int .i64 0) := (blk_cell (HP.out.get 1 rfl) 0).trans rfl
        have yr1 : w7.cell? ⟨br, 1, none⟩ = some (.bool false) := (blk_cell (HP.out.get 1 rfl) 1).trans rfl
        have yr2 : w7.cell? ⟨br, 2, none⟩ = some (.int .i64 0) := (blk_cell (HP.out.get 1 rfl) 2).trans rfl
        have yr3 : w7.cell? ⟨br, 3, none⟩ = some (.string ⟨#[]⟩) := (blk_cell (HP.out.get 1 rfl) 3).trans rfl
        have yr4 : w7.cell? ⟨br, 4, none⟩ = some (.slice none 0 0) := (blk_cell (HP.out.get 1 rfl) 4).trans rfl
        have yr5 : w7.cell? ⟨br, 5, none⟩ = some (.slice none 0 0) := (blk_cell (HP.out.get 1 rfl) 5).trans rfl
        have zr0 := blk_frozen (HP.out.get 1 rfl) 0
        have zr1 := blk_frozen (HP.out.get 1 rfl) 1
        have zr2 := blk_frozen (HP.out.get 1 rfl) 2
        have zr3 := blk_frozen (HP.out.get 1 rfl) 3
        have zr4 := blk_frozen (HP.out.get 1 rfl) 4
        have zr5 := blk_frozen (HP.out.get 1 rfl) 5
        go_wp2_with (fail)
        refine bodyPost_ret (results_ct rfl _ _ br 25 #[.int .i64 0, .bool false, .int .i64 0, .string ⟨#[]⟩, .slice none 0 0, .slice none 0 0] (0, 0) _ rfl (put6 (HP.out.get 1 rfl) _ _ _ _ _ _) Tryz.underlying25 rfl (by kernel_rfl)) rfl ?_
        exact ⟨none, 0, none, 0, rfl, RdF.nil _ _ _ _ _ _, put6_below HP.out.B (HP.out.low 1 rfl) _ _ _ _ _ _⟩
      have e1a : (e1 == 0) = true := beq_iff_eq.2 c1
      have e1b : (e1 != 0) = false := bne_eq_false_iff_eq.2 c1
      rw [if_pos c1] at H1
      go_wp2_with fail
      go_roundg k1
      case measure => omega
      case rel => exact ⟨_, i + 1, rfl, ⟨by have h2_ := HII.out; have h3_ := HI.out; unfold wrap64; omega⟩, ⟨by have := HI.out; omega⟩, ⟨Option.bind_eq_some_iff.2 ⟨e0, H1, H2⟩⟩, HF, ⟨HP.out.tail⟩⟩
end Go.Proofs.YtlofkjdcapbohaaGreatDoor.PConfKeeps
