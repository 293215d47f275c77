/- For the law SchemaRound: readField, walked. No condition. -/
import Derived.Test.YtlofkjdcapbohaaGreatDoorCfN
namespace Go.Proofs.YtlofkjdcapbohaaGreatDoor.PConfKeeps
open Go.RowKit Go.Proofs.YtlofkjdcapbohaaGreatDoorW.PrintWords Go.Proofs.YtlofkjdcapbohaaGreatDoorW.PrintLast Go.Proofs.YtlofkjdcapbohaaGreatDoorW.PrintMore
set_option linter.unusedVariables false
set_option linter.unusedSimpArgs false

def rF (k : Nat) (key : ByteArray) (x : S25) (f : S44) : Option S44 := if key.toList = ([114, 111, 117, 116, 101] : List UInt8) then some { f with f0 := x.f3 } else if key.toList = ([107, 105, 110, 100] : List UInt8) then some { f with f1 := (kOf x.f3).1 } else if key.toList = ([110, 101, 101, 100] : List UInt8) then some { f with f2 := x.f1 } else if key.toList = ([109, 105, 110] : List UInt8) then some { f with f3 := true, f4 := x.f2 } else if key.toList = ([109, 97, 120] : List UInt8) then some { f with f3 := true, f5 := x.f2 } else if key.toList = ([111, 110, 101, 111, 102] : List UInt8) then (if f.f6 = [] ∧ x.f4.length ≤ 1000000 then some { f with f6 := x.f4.map (fun y => y.f3) } else none) else if key.toList = ([100, 101, 102, 97, 117, 108, 116] : List UInt8) then (Fcl k x).bind fun c => some { f with f7 := c } else some f
def rFl (k : Nat) (t : S25) : Nat → Nat → S44 → Option S44
 | 0, _, f => some f
 | n + 1, i, f => (rF k (rdOf ByteArray.empty t.f5 (i : Int)) (rd_T25 t.f4 (i : Int)) f).bind fun f => rFl k t n (i + 1) f
section
variable {w W : World} {g t k : Nat} {l : List (Nat × Array Value × Nat)}
/-- the last six cells of a field's box are written -/
theorem Bs.dflt {c0 c1 c2 c3 c4 c5 c6 c7 c8 c9 c10 c11 c12 : Value} (h : Bs w W l) (i : Nat) (hi : l[i]? = some (g, #[c0, c1, c2, c3, c4, c5, c6, c7, c8, c9, c10, c11, c12], t)) (v0 v1 v2 v3 v4 v5 : Value) : Bs w ((((((W.setCell ⟨g, 7, none⟩ v0).setCell ⟨g, 8, none⟩ v1).setCell ⟨g, 9, none⟩ v2).setCell ⟨g, 10, none⟩ v3).setCell ⟨g, 11, none⟩ v4).setCell ⟨g, 12, none⟩ v5) (l.set i (g, #[c0, c1, c2, c3, c4, c5, c6, v0, v1, v2, v3, v4, v5], t)) := by
 obtain ⟨a0, b0⟩ := h.put' i hi 7 v0 (cs' := #[c0, c1, c2, c3, c4, c5, c6, v0, c8, c9, c10, c11, c12]) rfl
 obtain ⟨a1, b1⟩ := a0.put' i b0 8 v1 (cs' := #[c0, c1, c2, c3, c4, c5, c6, v0, v1, c9, c10, c11, c12]) rfl
 obtain ⟨a2, b2⟩ := a1.put' i b1 9 v2 (cs' := #[c0, c1, c2, c3, c4, c5, c6, v0, v1, v2, c10, c11, c12]) rfl
 obtain ⟨a3, b3⟩ := a2.put' i b2 10 v3 (cs' := #[c0, c1, c2, c3, c4, c5, c6, v0, v1, v2, v3, c11, c12]) rfl
 obtain ⟨a4, b4⟩ := a3.put' i b3 11 v4 (cs' := #[c0, c1, c2, c3, c4, c5, c6, v0, v1, v2, v3, v4, c12]) rfl
 obtain ⟨a5, b5⟩ := a4.put' i b4 12 v5 (cs' := #[c0, c1, c2, c3, c4, c5, c6, v0, v1, v2, v3, v4, v5]) rfl
 rw [List.set_set, List.set_set, List.set_set, List.set_set, List.set_set] at a5
 exact a5
theorem df_same (hk : k ≠ g) (v0 v1 v2 v3 v4 v5 : Value) : ((((((W.setCell ⟨g, 7, none⟩ v0).setCell ⟨g, 8, none⟩ v1).setCell ⟨g, 9, none⟩ v2).setCell ⟨g, 10, none⟩ v3).setCell ⟨g, 11, none⟩ v4).setCell ⟨g, 12, none⟩ v5).heap[k]? = W.heap[k]? := by
 iterate 6 rw [Below.heap_setCell _ _ _ _ hk]
end
theorem info9o : (Tryz.prog.info? 9).map (fun i => (i.zero, i.size, i.bytes)) = some (some (.string ⟨#[]⟩), 1, 16) := by kernel_rfl
theorem Bs.apart {α : Type} {d : Kd α} {e : Nat} {w W : World} {l : List (Nat × Array Value × Nat)} {base : Nat} {ok : Nat → Prop} {v : Value} {xs : List α} (h : Bs w W l) (ho : Kd.R d e W base ok v xs) (ht : l.all (fun p => p.2.2 != e) = true) : ∀ (i : Nat) (p : Nat × Array Value × Nat), l[i]? = some p → some p.1 ≠ v.ownBlock := fun i p hp =>
 Kd.R_ne ho (h.blk i p hp) (fun he => by
  have := List.all_eq_true.1 ht p (List.mem_of_getElem? hp)
  rw [bne_iff_ne] at this
  exact this he.symm)
theorem rowo {W : World} {base g : Nat} {cv : Value} {xs : List ByteArray} (h : Kd.R Kd.string 9 W base (fun _ => True) cv xs) (hn : some g ≠ cv.ownBlock) : Kd.R Kd.string 9 W base (fun k => k ≠ g) cv xs :=
 ⟨fun k hk he => hn (by rw [← he]; exact hk.symm), h.2⟩
set_option maxHeartbeats 4000000 in
set_option maxRecDepth 100000 in
theorem readField_calls (k : Nat) (v : S25) (A4 : Option Addr) (c4 : Nat) (A5 : Option Addr) (c5 : Nat) (r : S44) (w : World) (hkn : KN w) (hv : Rd w v A4 c4 A5 c5) (hl : v.f5.length ≤ v.f4.length) (h : rFl k v v.f5.length 0 z44 = some r) :
  Calls Tryz.prog 38 #[.agg #[.int .i64 v.f0, .bool v.f1, .int .i64 v.f2, .string v.f3, .slice A4 v.f4.length c4, .slice A5 v.f5.length c5]] w fun e w' => ∃ A6 c6 A11 c11 A12 c12, e = .returned (.agg #[.string r.f0, .int .i64 r.f1, .bool r.f2, .bool r.f3, .int .i64 r.f4, .int .i64 r.f5, .slice A6 r.f6.length c6, .int .i64 r.f7.f0, .bool r.f7.f1, .int .i64 r.f7.f2, .string r.f7.f3, .slice A11 r.f7.f4.length c11, .slice A12 r.f7.f5.length c12]) ∧ r.f6.length ≤ c6 ∧ Kd.F Kd.string w' (fun k => w.heap.size ≤ k) A6 r.f6.length r.f6 ∧ RdF w' (fun k => w.heap.size ≤ k) r.f7 A11 c11 A12 c12 ∧ Below w.heap.size w w' := by
 have hu25 := Tryz.underlying25
 have hu44 := Tryz.underlying44
 have HKN := Aside0.mk hkn
 have HV := Aside0.mk hv.F
 have HP := Aside0.mk (Bs.nil w)
 have HM := Aside0.mk hv.2.2.1.2.1
 have HTL := Aside0.mk hl
 have H := Aside0.mk h
 clear hkn hv hl h
 go_enter Tryz.func38, Tryz.ntmps38
 go_upto_region 1 with (first | ((with_reducible refine gate_dst (N := 1) rfl ?_); refine box_event ?hg (N := 1) ?hd (cs := #[.int .i64 v.f0, .bool v.f1, .int .i64 v.f2, .string v.f3, .slice A4 v.f4.length c4, .slice A5 v.f5.length c5]) (t := 25) ?hr ?_; (case hd => rfl); (case hg => rfl); (case hr => first | (go_simp; done) | (go_simp; rfl)); intro bv hg_ W0 hbox hb; have n0 := Aside0.mk (HP.out.new hg_ hbox hb); clear HP; have HP := n0; clear n0; clear hg_ hbox hb) | ((with_reducible refine gate_dst (N := 2) rfl ?_); refine box_event ?hg (N := 2) ?hd (cs := #[.string ⟨#[]⟩, .int .i64 0, .bool false, .bool false, .int .i64 0, .int .i64 0, .slice none 0 0, .int .i64 0, .bool false, .int .i64 0, .string ⟨#[]⟩, .slice none 0 0, .slice none 0 0]) (t := 44) ?hr ?_; (case hd => rfl); (case hg => rfl); (case hr => first | (go_simp; done) | (go_simp; rfl)); intro br hg_ W1 hbox hb; have n0 := Aside0.mk (HP.out.new hg_ hbox hb); clear HP; have HP := n0; clear n0; clear hg_ hbox hb))
 go_upto_region 2 with (((with_reducible refine gate_dst (N := 3) rfl ?_); refine box_event ?hg (N := 3) ?hd (cs := #[.string ⟨#[]⟩, .int .i64 0, .bool false, .bool false, .int .i64 0, .int .i64 0, .slice none 0 0, .int .i64 0, .bool false, .int .i64 0, .string ⟨#[]⟩, .slice none 0 0, .slice none 0 0]) (t := 44) ?hr ?_; (case hd => rfl); (case hg => rfl); (case hr => first | (go_simp; done) | (go_simp; rfl)); intro bf hg_ W2 hbox hb; have n0 := Aside0.mk (HP.out.new hg_ hbox hb); clear HP; have HP := n0; clear n0; clear hg_ hbox hb; have yz0 : W2.cell? ⟨bf, 0, none⟩ = some (.string ⟨#[]⟩) := HP.out.cl 0 0 rfl rfl; have yz1 : W2.cell? ⟨bf, 1, none⟩ = some (.int .i64 0) := HP.out.cl 0 1 rfl rfl; have yz2 : W2.cell? ⟨bf, 2, none⟩ = some (.bool false) := HP.out.cl 0 2 rfl rfl; have yz3 : W2.cell? ⟨bf, 3, none⟩ = some (.bool false) := HP.out.cl 0 3 rfl rfl; have yz4 : W2.cell? ⟨bf, 4, none⟩ = some (.int .i64 0) := HP.out.cl 0 4 rfl rfl; have yz5 : W2.cell? ⟨bf, 5, none⟩ = some (.int .i64 0) := HP.out.cl 0 5 rfl rfl; have yz6 : W2.cell? ⟨bf, 6, none⟩ = some (.slice none 0 0) := HP.out.cl 0 6 rfl rfl; have yz7 : W2.cell? ⟨bf, 7, none⟩ = some (.int .i64 0) := HP.out.cl 0 7 rfl rfl; have yz8 : W2.cell? ⟨bf, 8, none⟩ = some (.bool false) := HP.out.cl 0 8 rfl rfl; have yz9 : W2.cell? ⟨bf, 9, none⟩ = some (.int .i64 0) := HP.out.cl 0 9 rfl rfl; have yz10 : W2.cell? ⟨bf, 10, none⟩ = some (.string ⟨#[]⟩) := HP.out.cl 0 10 rfl rfl; have yz11 : W2.cell? ⟨bf, 11, none⟩ = some (.slice none 0 0) := HP.out.cl 0 11 rfl rfl; have yz12 : W2.cell? ⟨bf, 12, none⟩ = some (.slice none 0 0) := HP.out.cl 0 12 rfl rfl; have zz0 := HP.out.fz 0 0 rfl; have zz1 := HP.out.fz 0 1 rfl; have zz2 := HP.out.fz 0 2 rfl; have zz3 := HP.out.fz 0 3 rfl; have zz4 := HP.out.fz 0 4 rfl; have zz5 := HP.out.fz 0 5 rfl; have zz6 := HP.out.fz 0 6 rfl; have zz7 := HP.out.fz 0 7 rfl; have zz8 := HP.out.fz 0 8 rfl; have zz9 := HP.out.fz 0 9 rfl; have zz10 := HP.out.fz 0 10 rfl; have zz11 := HP.out.fz 0 11 rfl; have zz12 := HP.out.fz 0 12 rfl))
 have n0 := Aside0.mk (HP.out.thirteen 0 rfl (.string ⟨#[]⟩) (.int .i64 0) (.bool false) (.bool false) (.int .i64 0) (.int .i64 0) (.slice none 0 0) (.int .i64 0) (.bool false) (.int .i64 0) (.string ⟨#[]⟩) (.slice none 0 0) (.slice none 0 0))
 clear HP
 have HP := n0
 clear n0
 clear yz0 zz0 yz1 zz1 yz2 zz2 yz3 zz3 yz4 zz4 yz5 zz5 yz6 zz6 yz7 zz7 yz8 zz8 yz9 zz9 yz10 zz10 yz11 zz11 yz12 zz12
 generalize (((((((((((((W2.setCell ⟨bf, 0, none⟩ (.string ⟨#[]⟩)).setCell ⟨bf, 1, none⟩ (.int .i64 0)).setCell ⟨bf, 2, none⟩ (.bool false)).setCell ⟨bf, 3, none⟩ (.bool false)).setCell ⟨bf, 4, none⟩ (.int .i64 0)).setCell ⟨bf, 5, none⟩ (.int .i64 0)).setCell ⟨bf, 6, none⟩ (.slice none 0 0)).setCell ⟨bf, 7, none⟩ (.int .i64 0)).setCell ⟨bf, 8, none⟩ (.bool false)).setCell ⟨bf, 9, none⟩ (.int .i64 0)).setCell ⟨bf, 10, none⟩ (.string ⟨#[]⟩)).setCell ⟨bf, 11, none⟩ (.slice none 0 0)).setCell ⟨bf, 12, none⟩ (.slice none 0 0)) = W3 at HP ⊢
 have LBR := Aside0.mk (show br < bf from HP.out.nd 0 1 _ _ (by omega) rfl rfl)
 have GBF := Aside0.mk (HP.out.low 0 rfl)
 have yv5 : W3.cell? ⟨bv, 5, none⟩ = some (.slice A5 v.f5.length c5) := HP.out.cl 2 5 rfl rfl
 go_wp2_with fail
 go_loopg [13] v.f5.length (fun kq v_ w' => ∃ (jj : Int) (j : Nat) (f : S44) (A6 : Option Addr) (c6 : Nat) (A11 : Option Addr) (c11 : Nat) (A12 : Option Addr) (c12 : Nat), v_ = .int .i64 jj ∧ Aside0 (jj = (j : Int)) ∧ Aside0 (j + kq = v.f5.length) ∧ Aside0 (rFl k v kq j f = some r) ∧ Aside0 (f.f6.length ≤ c6 ∧ (f.f6 = [] → A6 = none ∧ c6 = 0)) ∧ Aside0 (Kd.F Kd.string w' (fun k => bf < k) A6 f.f6.length f.f6) ∧ Aside0 (RdF w' (fun k => bf < k) f.f7 A11 c11 A12 c12) ∧ Aside0 (Bs w w' [(bf, #[.string f.f0, .int .i64 f.f1, .bool f.f2, .bool f.f3, .int .i64 f.f4, .int .i64 f.f5, .slice A6 f.f6.length c6, .int .i64 f.f7.f0, .bool f.f7.f1, .int .i64 f.f7.f2, .string f.f7.f3, .slice A11 f.f7.f4.length c11, .slice A12 f.f7.f5.length c12], 44), (br, #[.string ⟨#[]⟩, .int .i64 0, .bool false, .bool false, .int .i64 0, .int .i64 0, .slice none 0 0, .int .i64 0, .bool false, .int .i64 0, .string ⟨#[]⟩, .slice none 0 0, .slice none 0 0], 44), (bv, #[.int .i64 v.f0, .bool v.f1, .int .i64 v.f2, .string v.f3, .slice A4 v.f4.length c4, .slice A5 v.f5.length c5], 25)]))
 case atStart => exact ⟨0, 0, z44, none, 0, none, 0, none, 0, rfl, ⟨rfl⟩, ⟨by omega⟩, H, ⟨Nat.le_refl _, fun _ => ⟨rfl, rfl⟩⟩, ⟨Kd.F_nil _ _ _⟩, ⟨RdF.nil _ _ _ _ _ _⟩, HP⟩
 case round =>
  clear HP H yv5
  obtain ⟨jj, j, f, A6, c6, A11, c11, A12, c12, rfl, HIIj, HIj, H, HL6, HF, HD, HP⟩ := hrel
  cases gk with
  | zero =>
   have e0 : decide (jj < (v.f5.length : Int)) = false := decide_eq_false (by have := HIIj.out; have := HIj.out; omega)
   have H1 := H.out
   rw [rFl] at H1
   injection H1 with H1
   subst H1
   have yf0 : wr.cell? ⟨bf, 0, none⟩ = some (.string f.f0) := HP.out.cl 0 0 rfl rfl
   have yf1 : wr.cell? ⟨bf, 1, none⟩ = some (.int .i64 f.f1) := HP.out.cl 0 1 rfl rfl
   have yf2 : wr.cell? ⟨bf, 2, none⟩ = some (.bool f.f2) := HP.out.cl 0 2 rfl rfl
   have yf3 : wr.cell? ⟨bf, 3, none⟩ = some (.bool f.f3) := HP.out.cl 0 3 rfl rfl
   have yf4 : wr.cell? ⟨bf, 4, none⟩ = some (.int .i64 f.f4) := HP.out.cl 0 4 rfl rfl
   have yf5 : wr.cell? ⟨bf, 5, none⟩ = some (.int .i64 f.f5) := HP.out.cl 0 5 rfl rfl
   have yf6 : wr.cell? ⟨bf, 6, none⟩ = some (.slice A6 f.f6.length c6) := HP.out.cl 0 6 rfl rfl
   have yf7 : wr.cell? ⟨bf, 7, none⟩ = some (.int .i64 f.f7.f0) := HP.out.cl 0 7 rfl rfl
   have yf8 : wr.cell? ⟨bf, 8, none⟩ = some (.bool f.f7.f1) := HP.out.cl 0 8 rfl rfl
   have yf9 : wr.cell? ⟨bf, 9, none⟩ = some (.int .i64 f.f7.f2) := HP.out.cl 0 9 rfl rfl
   have yf10 : wr.cell? ⟨bf, 10, none⟩ = some (.string f.f7.f3) := HP.out.cl 0 10 rfl rfl
   have yf11 : wr.cell? ⟨bf, 11, none⟩ = some (.slice A11 f.f7.f4.length c11) := HP.out.cl 0 11 rfl rfl
   have yf12 : wr.cell? ⟨bf, 12, none⟩ = some (.slice A12 f.f7.f5.length c12) := HP.out.cl 0 12 rfl rfl
   have yz0 : wr.cell? ⟨br, 0, none⟩ = some (.string ⟨#[]⟩) := HP.out.cl 1 0 rfl rfl
   have yz1 : wr.cell? ⟨br, 1, none⟩ = some (.int .i64 0) := HP.out.cl 1 1 rfl rfl
   have yz2 : wr.cell? ⟨br, 2, none⟩ = some (.bool false) := HP.out.cl 1 2 rfl rfl
   have yz3 : wr.cell? ⟨br, 3, none⟩ = some (.bool false) := HP.out.cl 1 3 rfl rfl
   have yz4 : wr.cell? ⟨br, 4, none⟩ = some (.int .i64 0) := HP.out.cl 1 4 rfl rfl
   have yz5 : wr.cell? ⟨br, 5, none⟩ = some (.int .i64 0) := HP.out.cl 1 5 rfl rfl
   have yz6 : wr.cell? ⟨br, 6, none⟩ = some (.slice none 0 0) := HP.out.cl 1 6 rfl rfl
   have yz7 : wr.cell? ⟨br, 7, none⟩ = some (.int .i64 0) := HP.out.cl 1 7 rfl rfl
   have yz8 : wr.cell? ⟨br, 8, none⟩ = some (.bool false) := HP.out.cl 1 8 rfl rfl
   have yz9 : wr.cell? ⟨br, 9, none⟩ = some (.int .i64 0) := HP.out.cl 1 9 rfl rfl
   have yz10 : wr.cell? ⟨br, 10, none⟩ = some (.string ⟨#[]⟩) := HP.out.cl 1 10 rfl rfl
   have yz11 : wr.cell? ⟨br, 11, none⟩ = some (.slice none 0 0) := HP.out.cl 1 11 rfl rfl
   have yz12 : wr.cell? ⟨br, 12, none⟩ = some (.slice none 0 0) := HP.out.cl 1 12 rfl rfl
   have zz0 := HP.out.fz 1 0 rfl
   have zz1 := HP.out.fz 1 1 rfl
   have zz2 := HP.out.fz 1 2 rfl
   have zz3 := HP.out.fz 1 3 rfl
   have zz4 := HP.out.fz 1 4 rfl
   have zz5 := HP.out.fz 1 5 rfl
   have zz6 := HP.out.fz 1 6 rfl
   have zz7 := HP.out.fz 1 7 rfl
   have zz8 := HP.out.fz 1 8 rfl
   have zz9 := HP.out.fz 1 9 rfl
   have zz10 := HP.out.fz 1 10 rfl
   have zz11 := HP.out.fz 1 11 rfl
   have zz12 := HP.out.fz 1 12 rfl
   go_wp2_with fail
   refine bodyPost_ret (results_cell_row rfl _ _ br 44 #[.string f.f0, .int .i64 f.f1, .bool f.f2, .bool f.f3, .int .i64 f.f4, .int .i64 f.f5, .slice A6 f.f6.length c6, .int .i64 f.f7.f0, .bool f.f7.f1, .int .i64 f.f7.f2, .string f.f7.f3, .slice A11 f.f7.f4.length c11, .slice A12 f.f7.f5.length c12] (0, 0) _ rfl ((HP.out.thirteen 1 rfl (.string f.f0) (.int .i64 f.f1) (.bool f.f2) (.bool f.f3) (.int .i64 f.f4) (.int .i64 f.f5) (.slice A6 f.f6.length c6) (.int .i64 f.f7.f0) (.bool f.f7.f1) (.int .i64 f.f7.f2) (.string f.f7.f3) (.slice A11 f.f7.f4.length c11) (.slice A12 f.f7.f5.length c12)).get 1 rfl) Tryz.underlying44 rfl (by kernel_rfl)) rfl ?_
   exact ⟨A6, c6, A11, c11, A12, c12, rfl, HL6.out.1, Kd.F_mono (Kd.F_step HF.out (fun k hk hlt => th_same (g := br) (k := k) (by have := LBR.out; omega) (.string f.f0) (.int .i64 f.f1) (.bool f.f2) (.bool f.f3) (.int .i64 f.f4) (.int .i64 f.f5) (.slice A6 f.f6.length c6) (.int .i64 f.f7.f0) (.bool f.f7.f1) (.int .i64 f.f7.f2) (.string f.f7.f3) (.slice A11 f.f7.f4.length c11) (.slice A12 f.f7.f5.length c12))) (fun k hk => by have := GBF.out; omega), (HD.out.step (fun k hk hlt => th_same (g := br) (k := k) (by have := LBR.out; omega) (.string f.f0) (.int .i64 f.f1) (.bool f.f2) (.bool f.f3) (.int .i64 f.f4) (.int .i64 f.f5) (.slice A6 f.f6.length c6) (.int .i64 f.f7.f0) (.bool f.f7.f1) (.int .i64 f.f7.f2) (.string f.f7.f3) (.slice A11 f.f7.f4.length c11) (.slice A12 f.f7.f5.length c12))).mono (fun k hk => by have := GBF.out; omega), (HP.out.thirteen 1 rfl (.string f.f0) (.int .i64 f.f1) (.bool f.f2) (.bool f.f3) (.int .i64 f.f4) (.int .i64 f.f5) (.slice A6 f.f6.length c6) (.int .i64 f.f7.f0) (.bool f.f7.f1) (.int .i64 f.f7.f2) (.string f.f7.f3) (.slice A11 f.f7.f4.length c11) (.slice A12 f.f7.f5.length c12)).B⟩
  | succ kB =>
   have pb0 : 0 ≤ jj := by have := HIIj.out; omega
   have pb1 : jj < (v.f5.length : Int) := by have := HIIj.out; have := HIj.out; omega
   have qb0 : decide (jj < (v.f5.length : Int)) = true := decide_eq_true pb1
   have qb1 : decide (0 ≤ jj) = true := decide_eq_true pb0
   have pb2 : jj < (v.f4.length : Int) := by have := HTL.out; omega
   have qb2 : decide (jj < (v.f4.length : Int)) = true := decide_eq_true pb2
   have H1 := H.out
   clear H
   rw [rFl, ← HIIj.out] at H1
   obtain ⟨ak, e_, y0⟩ := Kd.at_string (Kd.F_now HV.out.2.2.1) jj pb0 pb1
   cases e_
   obtain ⟨ad2, X4, x4_, X5, x5_, e_, x0, x1, x2, x3, x4, x5, hrd⟩ := at_F25 HV.out.1 jj pb0 pb2
   cases e_
   generalize rdOf ByteArray.empty v.f5 jj = key at y0 H1
   generalize rd_T25 v.f4 jj = x at x0 x1 x2 x3 x4 x5 hrd H1
   have HX := Aside0.mk hrd
   clear hrd
   obtain ⟨f2, hf2, H1⟩ := Option.bind_eq_some_iff.1 H1
   have HN := Aside0.mk H1
   clear H1
   unfold rF at hf2
   replace x0 := (HP.out.B.cell (World.block_lt_of_cell? w _ x0)).trans x0
   replace x1 := (HP.out.B.cell (World.block_lt_of_cell? w _ x1)).trans x1
   replace x2 := (HP.out.B.cell (World.block_lt_of_cell? w _ x2)).trans x2
   replace x3 := (HP.out.B.cell (World.block_lt_of_cell? w _ x3)).trans x3
   replace x4 := (HP.out.B.cell (World.block_lt_of_cell? w _ x4)).trans x4
   replace x5 := (HP.out.B.cell (World.block_lt_of_cell? w _ x5)).trans x5
   replace y0 := (HP.out.B.cell (World.block_lt_of_cell? w _ y0)).trans y0
   have yv4 : wr.cell? ⟨bv, 4, none⟩ = some (.slice (some ad2) v.f4.length c4) := HP.out.cl 2 4 rfl rfl
   replace pb0 := eq_true pb0
   replace pb1 := eq_true pb1
   replace pb2 := eq_true pb2
   go_upto_region 6 with (((with_reducible refine gate_dst (N := 6) rfl ?_); refine box_event ?hg (N := 6) ?hd (cs := #[.int .i64 0, .bool false, .int .i64 0, .string ⟨#[]⟩, .slice none 0 0, .slice none 0 0]) (t := 25) ?hr ?_; (case hd => rfl); (case hg => rfl); (case hr => first | (go_simp; done) | (go_simp; rfl)); intro bi hg_ W4 hbox hb; have n0 := Aside0.mk (HP.out.new hg_ hbox hb); have n1 := Aside0.mk (Kd.F_below (Kd.F_bound HF.out) hb); have n2 := Aside0.mk (HD.out.bound.below hb); have n3 := Aside0.mk ((show _ = bi from hg_.symm)); clear HP HF HD; have HP := n0; have HF := n1; have HD := n2; have HGE := n3; clear n0 n1 n2 n3; clear hg_ hbox hb; have yz0 : W4.cell? ⟨bi, 0, none⟩ = some (.int .i64 0) := HP.out.cl 0 0 rfl rfl; have yz1 : W4.cell? ⟨bi, 1, none⟩ = some (.bool false) := HP.out.cl 0 1 rfl rfl; have yz2 : W4.cell? ⟨bi, 2, none⟩ = some (.int .i64 0) := HP.out.cl 0 2 rfl rfl; have yz3 : W4.cell? ⟨bi, 3, none⟩ = some (.string ⟨#[]⟩) := HP.out.cl 0 3 rfl rfl; have yz4 : W4.cell? ⟨bi, 4, none⟩ = some (.slice none 0 0) := HP.out.cl 0 4 rfl rfl; have yz5 : W4.cell? ⟨bi, 5, none⟩ = some (.slice none 0 0) := HP.out.cl 0 5 rfl rfl; have zz0 := HP.out.fz 0 0 rfl; have zz1 := HP.out.fz 0 1 rfl; have zz2 := HP.out.fz 0 2 rfl; have zz3 := HP.out.fz 0 3 rfl; have zz4 := HP.out.fz 0 4 rfl; have zz5 := HP.out.fz 0 5 rfl))
   have n0 := Aside0.mk (HP.out.six 0 rfl (.int .i64 x.f0) (.bool x.f1) (.int .i64 x.f2) (.string x.f3) (.slice X4 x.f4.length x4_) (.slice X5 x.f5.length x5_))
   have n1 := Aside0.mk (Kd.F_mono (Kd.F_step HF.out (fun k hk hlt => six_same (g := bi) (by have := hk.2; have := HGE.out; omega) hlt (.int .i64 x.f0) (.bool x.f1) (.int .i64 x.f2) (.string x.f3) (.slice X4 x.f4.length x4_) (.slice X5 x.f5.length x5_))) (fun k hk => hk.1))
   have n2 := Aside0.mk ((HD.out.six (g := bi) (fun k hk => by have := hk.2; have := HGE.out; omega) (.int .i64 x.f0) (.bool x.f1) (.int .i64 x.f2) (.string x.f3) (.slice X4 x.f4.length x4_) (.slice X5 x.f5.length x5_)).mono (fun k hk => hk.1))
   clear HP HF HD
   have HP := n0
   have HF := n1
   have HD := n2
   clear n0 n1 n2
   clear HGE yv4 y0 yz0 zz0 x0 yz1 zz1 x1 yz2 zz2 x2 yz3 zz3 x3 yz4 zz4 x4 yz5 zz5 x5
   generalize ((((((W4.setCell ⟨bi, 0, none⟩ (.int .i64 x.f0)).setCell ⟨bi, 1, none⟩ (.bool x.f1)).setCell ⟨bi, 2, none⟩ (.int .i64 x.f2)).setCell ⟨bi, 3, none⟩ (.string x.f3)).setCell ⟨bi, 4, none⟩ (.slice X4 x.f4.length x4_)).setCell ⟨bi, 5, none⟩ (.slice X5 x.f5.length x5_)) = W5 at HP HF HD ⊢
   by_cases c_route : key.toList = ([114, 111, 117, 116, 101] : List UInt8)
   case pos =>
    rw [if_pos c_route] at hf2
    have c_routea : (key.toList == ([114, 111, 117, 116, 101] : List UInt8)) = true := beq_iff_eq.2 c_route
    have c_routeb : (key.toList != ([114, 111, 117, 116, 101] : List UInt8)) = false := bne_eq_false_iff_eq.2 c_route
    replace c_route := Aside0.mk c_route
    injection hf2 with hf2
    subst hf2
    have yi3 : W5.cell? ⟨bi, 3, none⟩ = some (.string x.f3) := HP.out.cl 0 3 rfl rfl
    have yf0 : W5.cell? ⟨bf, 0, none⟩ = some (.string f.f0) := HP.out.cl 1 0 rfl rfl
    have zf0 := HP.out.fz 1 0 rfl
    go_wp2_with fail
    go_roundg kB
    case measure => omega
    case rel => exact ⟨_, j + 1, _, A6, c6, A11, c11, A12, c12, rfl, ⟨by have h1_ := HM.out; have h2_ := HIIj.out; have h3_ := HIj.out; unfold wrap64; omega⟩, ⟨by have := HIj.out; omega⟩, HN, HL6, ⟨Kd.F_step HF.out (fun k hk hlt => Below.heap_setCell _ _ _ _ (fun h_ => Nat.lt_irrefl _ (h_ ▸ hk)))⟩, ⟨HD.out.step (fun k hk hlt => Below.heap_setCell _ _ _ _ (fun h_ => Nat.lt_irrefl _ (h_ ▸ hk)))⟩, ⟨(HP.out.put' 1 rfl 0 (.string x.f3) rfl).1.tail⟩⟩
   rw [if_neg c_route] at hf2
   have c_routea : (key.toList == ([114, 111, 117, 116, 101] : List UInt8)) = false := beq_eq_false_iff_ne.2 c_route
   have c_routeb : (key.toList != ([114, 111, 117, 116, 101] : List UInt8)) = true := bne_iff_ne.2 c_route
   replace c_route := Aside0.mk c_route
   by_cases c_kind : key.toList = ([107, 105, 110, 100] : List UInt8)
   case pos =>
    rw [if_pos c_kind] at hf2
    have c_kinda : (key.toList == ([107, 105, 110, 100] : List UInt8)) = true := beq_iff_eq.2 c_kind
    have c_kindb : (key.toList != ([107, 105, 110, 100] : List UInt8)) = false := bne_eq_false_iff_eq.2 c_kind
    replace c_kind := Aside0.mk c_kind
    injection hf2 with hf2
    subst hf2
    have yi3 : W5.cell? ⟨bi, 3, none⟩ = some (.string x.f3) := HP.out.cl 0 3 rfl rfl
    go_wp2_with (go_at_call 59; refine (kindOf_calls x.f3 (kOf x.f3) _ (HKN.out.below HP.out.B) rfl).mono ?_; rintro e W6 ⟨rfl, hb⟩; have n0 := Aside0.mk (HP.out.below hb); have n1 := Aside0.mk (Kd.F_below HF.out hb); have n2 := Aside0.mk (HD.out.below hb); clear HP HF HD; have HP := n0; have HF := n1; have HD := n2; clear n0 n1 n2; clear hb; have yf1 : W6.cell? ⟨bf, 1, none⟩ = some (.int .i64 f.f1) := HP.out.cl 1 1 rfl rfl; have zf1 := HP.out.fz 1 1 rfl)
    go_roundg kB
    case measure => omega
    case rel => exact ⟨_, j + 1, _, A6, c6, A11, c11, A12, c12, rfl, ⟨by have h1_ := HM.out; have h2_ := HIIj.out; have h3_ := HIj.out; unfold wrap64; omega⟩, ⟨by have := HIj.out; omega⟩, HN, HL6, ⟨Kd.F_step HF.out (fun k hk hlt => Below.heap_setCell _ _ _ _ (fun h_ => Nat.lt_irrefl _ (h_ ▸ hk)))⟩, ⟨HD.out.step (fun k hk hlt => Below.heap_setCell _ _ _ _ (fun h_ => Nat.lt_irrefl _ (h_ ▸ hk)))⟩, ⟨(HP.out.put' 1 rfl 1 (.int .i64 (kOf x.f3).1) rfl).1.tail⟩⟩
   rw [if_neg c_kind] at hf2
   have c_kinda : (key.toList == ([107, 105, 110, 100] : List UInt8)) = false := beq_eq_false_iff_ne.2 c_kind
   have c_kindb : (key.toList != ([107, 105, 110, 100] : List UInt8)) = true := bne_iff_ne.2 c_kind
   replace c_kind := Aside0.mk c_kind
   by_cases c_need : key.toList = ([110, 101, 101, 100] : List UInt8)
   case pos =>
    rw [if_pos c_need] at hf2
    have c_needa : (key.toList == ([110, 101, 101, 100] : List UInt8)) = true := beq_iff_eq.2 c_need
    have c_needb : (key.toList != ([110, 101, 101, 100] : List UInt8)) = false := bne_eq_false_iff_eq.2 c_need
    replace c_need := Aside0.mk c_need
    injection hf2 with hf2
    subst hf2
    have yi1 : W5.cell? ⟨bi, 1, none⟩ = some (.bool x.f1) := HP.out.cl 0 1 rfl rfl
    have yf2 : W5.cell? ⟨bf, 2, none⟩ = some (.bool f.f2) := HP.out.cl 1 2 rfl rfl
    have zf2 := HP.out.fz 1 2 rfl
    go_wp2_with fail
    go_roundg kB
    case measure => omega
    case rel => exact ⟨_, j + 1, _, A6, c6, A11, c11, A12, c12, rfl, ⟨by have h1_ := HM.out; have h2_ := HIIj.out; have h3_ := HIj.out; unfold wrap64; omega⟩, ⟨by have := HIj.out; omega⟩, HN, HL6, ⟨Kd.F_step HF.out (fun k hk hlt => Below.heap_setCell _ _ _ _ (fun h_ => Nat.lt_irrefl _ (h_ ▸ hk)))⟩, ⟨HD.out.step (fun k hk hlt => Below.heap_setCell _ _ _ _ (fun h_ => Nat.lt_irrefl _ (h_ ▸ hk)))⟩, ⟨(HP.out.put' 1 rfl 2 (.bool x.f1) rfl).1.tail⟩⟩
   rw [if_neg c_need] at hf2
   have c_needa : (key.toList == ([110, 101, 101, 100] : List UInt8)) = false := beq_eq_false_iff_ne.2 c_need
   have c_needb : (key.toList != ([110, 101, 101, 100] : List UInt8)) = true := bne_iff_ne.2 c_need
   replace c_need := Aside0.mk c_need
   by_cases c_min : key.toList = ([109, 105, 110] : List UInt8)
   case pos =>
    rw [if_pos c_min] at hf2
    have c_mina : (key.toList == ([109, 105, 110] : List UInt8)) = true := beq_iff_eq.2 c_min
    have c_minb : (key.toList != ([109, 105, 110] : List UInt8)) = false := bne_eq_false_iff_eq.2 c_min
    replace c_min := Aside0.mk c_min
    injection hf2 with hf2
    subst hf2
    have yi2 : W5.cell? ⟨bi, 2, none⟩ = some (.int .i64 x.f2) := HP.out.cl 0 2 rfl rfl
    have yf3 : W5.cell? ⟨bf, 3, none⟩ = some (.bool f.f3) := HP.out.cl 1 3 rfl rfl
    have yf4 : W5.cell? ⟨bf, 4, none⟩ = some (.int .i64 f.f4) := HP.out.cl 1 4 rfl rfl
    have zf3 := HP.out.fz 1 3 rfl
    have zf4 := HP.out.fz 1 4 rfl
    go_upto_region 14 with (fail)
    go_region_with (fail)
    all_goals (go_wp2_with fail; go_roundg kB; (case measure => omega); (case rel => exact ⟨_, j + 1, _, A6, c6, A11, c11, A12, c12, rfl, ⟨by have h1_ := HM.out; have h2_ := HIIj.out; have h3_ := HIj.out; unfold wrap64; omega⟩, ⟨by have := HIj.out; omega⟩, HN, HL6, ⟨Kd.F_below (Kd.F_step HF.out (fun k hk hlt => (Below.heap_setCell _ _ _ _ (fun h_ => Nat.lt_irrefl _ (h_ ▸ hk))).trans (Below.heap_setCell _ _ _ _ (fun h_ => Nat.lt_irrefl _ (h_ ▸ hk))))) (below_drew (Below.refl _ _))⟩, ⟨(HD.out.step (fun k hk hlt => (Below.heap_setCell _ _ _ _ (fun h_ => Nat.lt_irrefl _ (h_ ▸ hk))).trans (Below.heap_setCell _ _ _ _ (fun h_ => Nat.lt_irrefl _ (h_ ▸ hk))))).below (below_drew (Below.refl _ _))⟩, ⟨(((HP.out.put' 1 rfl 3 (.bool true) rfl).1.put' 1 rfl 4 (.int .i64 x.f2) rfl).1.below (below_drew (Below.refl _ _))).tail⟩⟩))
   rw [if_neg c_min] at hf2
   have c_mina : (key.toList == ([109, 105, 110] : List UInt8)) = false := beq_eq_false_iff_ne.2 c_min
   have c_minb : (key.toList != ([109, 105, 110] : List UInt8)) = true := bne_iff_ne.2 c_min
   replace c_min := Aside0.mk c_min
   by_cases c_max : key.toList = ([109, 97, 120] : List UInt8)
   case pos =>
    rw [if_pos c_max] at hf2
    have c_maxa : (key.toList == ([109, 97, 120] : List UInt8)) = true := beq_iff_eq.2 c_max
    have c_maxb : (key.toList != ([109, 97, 120] : List UInt8)) = false := bne_eq_false_iff_eq.2 c_max
    replace c_max := Aside0.mk c_max
    injection hf2 with hf2
    subst hf2
    have yi2 : W5.cell? ⟨bi, 2, none⟩ = some (.int .i64 x.f2) := HP.out.cl 0 2 rfl rfl
    have yf3 : W5.cell? ⟨bf, 3, none⟩ = some (.bool f.f3) := HP.out.cl 1 3 rfl rfl
    have yf5 : W5.cell? ⟨bf, 5, none⟩ = some (.int .i64 f.f5) := HP.out.cl 1 5 rfl rfl
    have zf3 := HP.out.fz 1 3 rfl
    have zf5 := HP.out.fz 1 5 rfl
    go_upto_region 16 with (fail)
    go_region_with (fail)
    all_goals (go_wp2_with fail; go_roundg kB; (case measure => omega); (case rel => exact ⟨_, j + 1, _, A6, c6, A11, c11, A12, c12, rfl, ⟨by have h1_ := HM.out; have h2_ := HIIj.out; have h3_ := HIj.out; unfold wrap64; omega⟩, ⟨by have := HIj.out; omega⟩, HN, HL6, ⟨Kd.F_below (Kd.F_step HF.out (fun k hk hlt => (Below.heap_setCell _ _ _ _ (fun h_ => Nat.lt_irrefl _ (h_ ▸ hk))).trans (Below.heap_setCell _ _ _ _ (fun h_ => Nat.lt_irrefl _ (h_ ▸ hk))))) (below_drew (Below.refl _ _))⟩, ⟨(HD.out.step (fun k hk hlt => (Below.heap_setCell _ _ _ _ (fun h_ => Nat.lt_irrefl _ (h_ ▸ hk))).trans (Below.heap_setCell _ _ _ _ (fun h_ => Nat.lt_irrefl _ (h_ ▸ hk))))).below (below_drew (Below.refl _ _))⟩, ⟨(((HP.out.put' 1 rfl 3 (.bool true) rfl).1.put' 1 rfl 5 (.int .i64 x.f2) rfl).1.below (below_drew (Below.refl _ _))).tail⟩⟩))
   rw [if_neg c_max] at hf2
   have c_maxa : (key.toList == ([109, 97, 120] : List UInt8)) = false := beq_eq_false_iff_ne.2 c_max
   have c_maxb : (key.toList != ([109, 97, 120] : List UInt8)) = true := bne_iff_ne.2 c_max
   replace c_max := Aside0.mk c_max
   by_cases c_oneof : key.toList = ([111, 110, 101, 111, 102] : List UInt8)
   case pos =>
    rw [if_pos c_oneof] at hf2
    have c_oneofa : (key.toList == ([111, 110, 101, 111, 102] : List UInt8)) = true := beq_iff_eq.2 c_oneof
    have c_oneofb : (key.toList != ([111, 110, 101, 111, 102] : List UInt8)) = false := bne_eq_false_iff_eq.2 c_oneof
    replace c_oneof := Aside0.mk c_oneof
    by_cases c7 : f.f6 = [] ∧ x.f4.length ≤ 1000000
    case neg => rw [if_neg c7] at hf2; cases hf2
    rw [if_pos c7] at hf2
    injection hf2 with hf2
    subst hf2
    obtain ⟨c7, c8⟩ := c7
    have HXL := Aside0.mk c8
    clear c8
    obtain ⟨e6, e7⟩ := HL6.out.2 c7
    have HE6 := Aside0.mk c7
    subst e6
    subst e7
    clear c7
    have yi4 : W5.cell? ⟨bi, 4, none⟩ = some (.slice X4 x.f4.length x4_) := HP.out.cl 0 4 rfl rfl
    have LT := Aside0.mk (HP.out.lt 1 rfl)
    have HO := Aside0.mk (Kd.R_nil Kd.string 9 W5 W5.heap.size (fun _ => True))
    have n0 := Aside0.mk (HD.out.bound)
    clear HD
    have HD := n0
    clear n0
    have GB := Aside0.mk HP.out.size
    have HB5 := Aside0.mk (show W5.heap.size ≤ W5.heap.size from Nat.le_refl _)
    have HF0 := HO
    clear HF
    obtain ⟨nb, hnb⟩ : ∃ nb, nb = W5.heap.size := ⟨_, rfl⟩
    rw [← hnb] at HO HD LT GB HF0
    have HS5 := Aside0.mk (show nb ≤ W5.heap.size by omega)
    clear hnb HB5 HF0
    have HMX := Aside0.mk (show x.f4.length ≤ 1000000 from HXL.out)
    go_wp2_with fail
    go_loopg [60] x.f4.length (fun kq v_ w' => ∃ (mm : Int) (m : Nat) (vO : Value), v_ = .int .i64 mm ∧ Aside0 (mm = (m : Int)) ∧ Aside0 (m + kq = x.f4.length) ∧ Aside0 (m = 0 → vO = .slice none 0 0) ∧ Aside0 (nb ≤ w'.heap.size) ∧ Aside0 (Kd.R Kd.string 9 w' nb (fun _ => True) vO ((x.f4.take m).map (fun y => y.f3))) ∧ Aside0 (RdF w' (fun k => bf < k ∧ k < nb) f.f7 A11 c11 A12 c12) ∧ Aside0 (Bs w w' [(bi, #[.int .i64 x.f0, .bool x.f1, .int .i64 x.f2, .string x.f3, .slice X4 x.f4.length x4_, .slice X5 x.f5.length x5_], 25), (bf, #[.string f.f0, .int .i64 f.f1, .bool f.f2, .bool f.f3, .int .i64 f.f4, .int .i64 f.f5, vO, .int .i64 f.f7.f0, .bool f.f7.f1, .int .i64 f.f7.f2, .string f.f7.f3, .slice A11 f.f7.f4.length c11, .slice A12 f.f7.f5.length c12], 44), (br, #[.string ⟨#[]⟩, .int .i64 0, .bool false, .bool false, .int .i64 0, .int .i64 0, .slice none 0 0, .int .i64 0, .bool false, .int .i64 0, .string ⟨#[]⟩, .slice none 0 0, .slice none 0 0], 44), (bv, #[.int .i64 v.f0, .bool v.f1, .int .i64 v.f2, .string v.f3, .slice (some ad2) v.f4.length c4, .slice (some ak) v.f5.length c5], 25)]))
    case atStart => exact ⟨0, 0, .slice none 0 0, rfl, ⟨rfl⟩, ⟨by omega⟩, ⟨fun _ => rfl⟩, HS5, HO, HD, ⟨by have h_ := HP.out; rw [HE6.out] at h_; exact h_⟩⟩
    case round =>
     clear HP HO HD HS5 yi4
     obtain ⟨mm, m, vO, rfl, HIIm, HIm, HV0, HS5, HO, HD, HP⟩ := hrel
     cases gk with
     | zero =>
      have e0 : decide (mm < (x.f4.length : Int)) = false := decide_eq_false (by have := HIIm.out; have := HIm.out; omega)
      go_wp2_with fail
      have hO := HO.out
      rw [List.take_of_length_le (by have := HIm.out; omega)] at hO
      obtain ⟨A6, c6, hv6, lc, hC⟩ := Kd.R_reads hO
      subst hv6
      have hF := Kd.F_mono (Kd.R_F (Kd.R_bound hO)) (ok' := fun k => bf < k) (fun k hk => by have h1_ := hk.2.1; have := LT.out; omega)
      have h0 : x.f4.map (fun y => y.f3) = [] → A6 = none ∧ c6 = 0 := by
       intro h_
       have h1_ : x.f4 = [] := List.map_eq_nil_iff.1 h_
       have h2_ := HIm.out
       rw [h1_, List.length_nil] at h2_
       have h3_ := HV0.out (by omega)
       injection h3_ with h4_ h5_ h6_
       exact ⟨h4_, h6_⟩
      go_roundg kB
      case measure => omega
      case rel => exact ⟨_, j + 1, _, A6, c6, A11, c11, A12, c12, rfl, ⟨by have h1_ := HM.out; have h2_ := HIIj.out; have h3_ := HIj.out; unfold wrap64; omega⟩, ⟨by have := HIj.out; omega⟩, HN, ⟨lc, h0⟩, ⟨hF⟩, ⟨HD.out.mono (fun k hk => hk.1)⟩, ⟨HP.out.tail⟩⟩
     | succ kC =>
      have pc0 : 0 ≤ mm := by have := HIIm.out; omega
      have pc1 : mm < (x.f4.length : Int) := by have := HIIm.out; have := HIm.out; omega
      have qc0 : decide (mm < (x.f4.length : Int)) = true := decide_eq_true pc1
      have qc1 : decide (0 ≤ mm) = true := decide_eq_true pc0
      obtain ⟨ad3, Y4, y4_, Y5, y5_, e_, x0, x1, x2, x3, x4, x5, _⟩ := at_F25 HX.out.1 mm pc0 pc1
      cases e_
      have HTK := Aside0.mk (show (x.f4.take (m + 1)).map (fun y => y.f3) = (x.f4.take m).map (fun y => y.f3) ++ [(rd_T25 x.f4 mm).f3] by rw [HIIm.out]; have hm : m < x.f4.length := (by have := HIm.out; omega); rw [List.take_succ_eq_append_getElem hm, List.map_append]; unfold rd_T25; rw [Int.toNat_natCast, List.getD_eq_getElem?_getD, List.getElem?_eq_getElem hm]; rfl)
      have HOL := Aside0.mk (show ((x.f4.take m).map (fun y => y.f3)).length ≤ 1000000 by rw [List.length_map, List.length_take]; have := HXL.out; omega)
      generalize rd_T25 x.f4 mm = y at x0 x1 x2 x3 x4 x5 HTK
      generalize (x.f4.take m).map (fun y => y.f3) = outs at HO HTK HOL
      replace x0 := (HP.out.B.cell (World.block_lt_of_cell? w _ x0)).trans x0
      replace x1 := (HP.out.B.cell (World.block_lt_of_cell? w _ x1)).trans x1
      replace x2 := (HP.out.B.cell (World.block_lt_of_cell? w _ x2)).trans x2
      replace x3 := (HP.out.B.cell (World.block_lt_of_cell? w _ x3)).trans x3
      replace x4 := (HP.out.B.cell (World.block_lt_of_cell? w _ x4)).trans x4
      replace x5 := (HP.out.B.cell (World.block_lt_of_cell? w _ x5)).trans x5
      replace pc0 := eq_true pc0
      replace pc1 := eq_true pc1
      obtain ⟨A6, c6, hv6, lc, _⟩ := Kd.R_reads HO.out
      subst hv6
      go_upto_region 21 with (((with_reducible refine gate_dst (N := 8) rfl ?_); refine box_event ?hg (N := 8) ?hd (cs := #[.int .i64 0, .bool false, .int .i64 0, .string ⟨#[]⟩, .slice none 0 0, .slice none 0 0]) (t := 25) ?hr ?_; (case hd => rfl); (case hg => rfl); (case hr => first | (go_simp; done) | (go_simp; rfl)); intro by_ hg_ W7 hbox hb; have n0 := Aside0.mk (HP.out.new hg_ hbox hb); have n1 := Aside0.mk (HD.out.below hb); have n2 := Aside0.mk (Kd.R_below HO.out hb); have n3 := Aside0.mk (Nat.le_trans HS5.out hb.size); have n4 := Aside0.mk ((show nb ≤ by_ by rw [hg_]; exact HS5.out)); clear HP HD HO HS5; have HP := n0; have HD := n1; have HO := n2; have HS5 := n3; have HGE := n4; clear n0 n1 n2 n3 n4; clear hg_ hbox hb; have yz0 : W7.cell? ⟨by_, 0, none⟩ = some (.int .i64 0) := HP.out.cl 0 0 rfl rfl; have yz1 : W7.cell? ⟨by_, 1, none⟩ = some (.bool false) := HP.out.cl 0 1 rfl rfl; have yz2 : W7.cell? ⟨by_, 2, none⟩ = some (.int .i64 0) := HP.out.cl 0 2 rfl rfl; have yz3 : W7.cell? ⟨by_, 3, none⟩ = some (.string ⟨#[]⟩) := HP.out.cl 0 3 rfl rfl; have yz4 : W7.cell? ⟨by_, 4, none⟩ = some (.slice none 0 0) := HP.out.cl 0 4 rfl rfl; have yz5 : W7.cell? ⟨by_, 5, none⟩ = some (.slice none 0 0) := HP.out.cl 0 5 rfl rfl; have zz0 := HP.out.fz 0 0 rfl; have zz1 := HP.out.fz 0 1 rfl; have zz2 := HP.out.fz 0 2 rfl; have zz3 := HP.out.fz 0 3 rfl; have zz4 := HP.out.fz 0 4 rfl; have zz5 := HP.out.fz 0 5 rfl))
      have HRN := rowo HO.out (Kd.R_ne HO.out (HP.out.get 0 rfl) (by decide))
      have n0 := Aside0.mk (HP.out.six 0 rfl (.int .i64 y.f0) (.bool y.f1) (.int .i64 y.f2) (.string y.f3) (.slice Y4 y.f4.length y4_) (.slice Y5 y.f5.length y5_))
      have n1 := Aside0.mk (HD.out.six (g := by_) (fun k hk => by have := hk.2; have := HGE.out; omega) (.int .i64 y.f0) (.bool y.f1) (.int .i64 y.f2) (.string y.f3) (.slice Y4 y.f4.length y4_) (.slice Y5 y.f5.length y5_))
      have n2 := Aside0.mk (show Kd.R Kd.string 9 ((((((W7.setCell ⟨by_, 0, none⟩ (.int .i64 y.f0)).setCell ⟨by_, 1, none⟩ (.bool y.f1)).setCell ⟨by_, 2, none⟩ (.int .i64 y.f2)).setCell ⟨by_, 3, none⟩ (.string y.f3)).setCell ⟨by_, 4, none⟩ (.slice Y4 y.f4.length y4_)).setCell ⟨by_, 5, none⟩ (.slice Y5 y.f5.length y5_)) nb (fun _ => True) (.slice A6 outs.length c6) outs from Kd.R_mono (Kd.R_far (Kd.R_far (Kd.R_far (Kd.R_far (Kd.R_far (Kd.R_far HRN (fun _ hk => hk) _) (fun _ hk => hk) _) (fun _ hk => hk) _) (fun _ hk => hk) _) (fun _ hk => hk) _) (fun _ hk => hk) _) (fun _ _ => trivial))
      have n3 := Aside0.mk (show nb ≤ ((((((W7.setCell ⟨by_, 0, none⟩ (.int .i64 y.f0)).setCell ⟨by_, 1, none⟩ (.bool y.f1)).setCell ⟨by_, 2, none⟩ (.int .i64 y.f2)).setCell ⟨by_, 3, none⟩ (.string y.f3)).setCell ⟨by_, 4, none⟩ (.slice Y4 y.f4.length y4_)).setCell ⟨by_, 5, none⟩ (.slice Y5 y.f5.length y5_)).heap.size from Nat.le_trans HS5.out ((((((((Below.refl 0 W7).setCell (Nat.zero_le _) _).setCell (Nat.zero_le _) _).setCell (Nat.zero_le _) _).setCell (Nat.zero_le _) _).setCell (Nat.zero_le _) _).setCell (Nat.zero_le _) _).size))
      clear HP HD HO HS5
      have HP := n0
      have HD := n1
      have HO := n2
      have HS5 := n3
      clear n0 n1 n2 n3
      clear HGE HRN yz0 zz0 x0 yz1 zz1 x1 yz2 zz2 x2 yz3 zz3 x3 yz4 zz4 x4 yz5 zz5 x5
      generalize ((((((W7.setCell ⟨by_, 0, none⟩ (.int .i64 y.f0)).setCell ⟨by_, 1, none⟩ (.bool y.f1)).setCell ⟨by_, 2, none⟩ (.int .i64 y.f2)).setCell ⟨by_, 3, none⟩ (.string y.f3)).setCell ⟨by_, 4, none⟩ (.slice Y4 y.f4.length y4_)).setCell ⟨by_, 5, none⟩ (.slice Y5 y.f5.length y5_)) = W8 at HP HD HO HS5 ⊢
      have yy3 : W8.cell? ⟨by_, 3, none⟩ = some (.string y.f3) := HP.out.cl 0 3 rfl rfl
      have yf6 : W8.cell? ⟨bf, 6, none⟩ = some (.slice A6 outs.length c6) := HP.out.cl 2 6 rfl rfl
      go_wp2_with ((with_reducible refine gate_builtin (b := .append) (xs := #[.tmp 65, .tmp 68]) rfl ?_); (try (refine gate_guard (by rfl) ?_; dsimp only)); at_builtin; refine Kd.R_append Kd.string (w0 := W8) nb rfl (.tmp 65) (.tmp 68) 23 9 (.string ⟨#[]⟩) 16 rfl Tryz.underlying23 info9o rfl (by decide) (by omega) (.slice A6 outs.length c6) outs y.f3 [.string y.f3] (fun _ => True) (fun _ => False) rfl (by rfl) (show Kd.M Kd.string _ _ _ y.f3 [.string y.f3] from rfl) (fun _ h => h.elim) (fun _ _ => trivial) HO.out (Below.refl _ _) HS5.out (by have := HOL.out; omega) ?_; intro v1 w9 ho hb9 hg hat; generalize houts : outs ++ [y.f3] = outs2 at ho; have HTK2 := Aside0.mk (HTK.out.trans houts); clear houts; obtain ⟨A7, c7, rfl, lc7, _⟩ := Kd.R_reads ho; have n0 := Aside0.mk (HP.out.grown hg (HP.out.B.grown hg HP.out.size (fun k e => Nat.le_trans GB.out (Kd.R_base HO.out k e))) (HP.out.apart HO.out rfl)); have n1 := Aside0.mk (HD.out.step (fun k hk hlt => hg.block k hlt (fun he => by have h1_ := Kd.R_base HO.out k he.symm; omega))); have n2 := Aside0.mk ho; have n3 := Aside0.mk (Nat.le_trans HS5.out hg.size); clear HP HD HO HS5 ho hb9 hg hat; have HP := n0; have HD := n1; have HO := n2; have HS5 := n3; clear n0 n1 n2 n3; have yg6 : w9.cell? ⟨bf, 6, none⟩ = some (.slice A6 outs.length c6) := HP.out.cl 2 6 rfl rfl; have zg6 := HP.out.fz 2 6 rfl)
      go_roundg kC
      case measure => omega
      case rel => exact ⟨_, m + 1, .slice A7 outs2.length c7, rfl, ⟨by have h1_ := HMX.out; have h2_ := HIIm.out; have h3_ := HIm.out; unfold wrap64; omega⟩, ⟨by have := HIm.out; omega⟩, ⟨fun h_ => by omega⟩, ⟨Nat.le_trans HS5.out ((Below.refl 0 _).setCell (Nat.zero_le _) _).size⟩, ⟨by rw [HTK2.out]; exact Kd.R_mono (Kd.R_far (rowo HO.out (Kd.R_ne HO.out (HP.out.get 2 rfl) (by decide))) (fun _ hk => hk) _) (fun _ _ => trivial)⟩, ⟨HD.out.step (fun k hk hlt => Below.heap_setCell _ _ _ _ (fun h_ => Nat.lt_irrefl _ (h_ ▸ hk.1)))⟩, ⟨(HP.out.put' 2 rfl 6 (.slice A7 outs2.length c7) rfl).1.tail⟩⟩
   rw [if_neg c_oneof] at hf2
   have c_oneofa : (key.toList == ([111, 110, 101, 111, 102] : List UInt8)) = false := beq_eq_false_iff_ne.2 c_oneof
   have c_oneofb : (key.toList != ([111, 110, 101, 111, 102] : List UInt8)) = true := bne_iff_ne.2 c_oneof
   replace c_oneof := Aside0.mk c_oneof
   by_cases c_default : key.toList = ([100, 101, 102, 97, 117, 108, 116] : List UInt8)
   case pos =>
    rw [if_pos c_default] at hf2
    have c_defaulta : (key.toList == ([100, 101, 102, 97, 117, 108, 116] : List UInt8)) = true := beq_iff_eq.2 c_default
    have c_defaultb : (key.toList != ([100, 101, 102, 97, 117, 108, 116] : List UInt8)) = false := bne_eq_false_iff_eq.2 c_default
    replace c_default := Aside0.mk c_default
    obtain ⟨cl, hcl, hf2⟩ := Option.bind_eq_some_iff.1 hf2
    injection hf2 with hf2
    subst hf2
    have HCL := Aside0.mk hcl
    clear hcl
    have yi0 : W5.cell? ⟨bi, 0, none⟩ = some (.int .i64 x.f0) := HP.out.cl 0 0 rfl rfl
    have yi1 : W5.cell? ⟨bi, 1, none⟩ = some (.bool x.f1) := HP.out.cl 0 1 rfl rfl
    have yi2 : W5.cell? ⟨bi, 2, none⟩ = some (.int .i64 x.f2) := HP.out.cl 0 2 rfl rfl
    have yi3 : W5.cell? ⟨bi, 3, none⟩ = some (.string x.f3) := HP.out.cl 0 3 rfl rfl
    have yi4 : W5.cell? ⟨bi, 4, none⟩ = some (.slice X4 x.f4.length x4_) := HP.out.cl 0 4 rfl rfl
    have yi5 : W5.cell? ⟨bi, 5, none⟩ = some (.slice X5 x.f5.length x5_) := HP.out.cl 0 5 rfl rfl
    go_wp2_with (go_at_call 21; refine (clone_calls k x X4 x4_ X5 x5_ cl _ (HX.out.below HP.out.B).now HCL.out).mono ?_; rintro e W6 ⟨J4, j4, J5, j5, rfl, hr, hb⟩; have LT := Aside0.mk (HP.out.lt 1 rfl); have HR := Aside0.mk hr; have n0 := Aside0.mk (HP.out.below hb); have n1 := Aside0.mk (Kd.F_below HF.out hb); clear HP HF; have HP := n0; have HF := n1; clear n0 n1; clear hb hr; have yf7 : W6.cell? ⟨bf, 7, none⟩ = some (.int .i64 f.f7.f0) := HP.out.cl 1 7 rfl rfl; have yf8 : W6.cell? ⟨bf, 8, none⟩ = some (.bool f.f7.f1) := HP.out.cl 1 8 rfl rfl; have yf9 : W6.cell? ⟨bf, 9, none⟩ = some (.int .i64 f.f7.f2) := HP.out.cl 1 9 rfl rfl; have yf10 : W6.cell? ⟨bf, 10, none⟩ = some (.string f.f7.f3) := HP.out.cl 1 10 rfl rfl; have yf11 : W6.cell? ⟨bf, 11, none⟩ = some (.slice A11 f.f7.f4.length c11) := HP.out.cl 1 11 rfl rfl; have yf12 : W6.cell? ⟨bf, 12, none⟩ = some (.slice A12 f.f7.f5.length c12) := HP.out.cl 1 12 rfl rfl; have zf7 := HP.out.fz 1 7 rfl; have zf8 := HP.out.fz 1 8 rfl; have zf9 := HP.out.fz 1 9 rfl; have zf10 := HP.out.fz 1 10 rfl; have zf11 := HP.out.fz 1 11 rfl; have zf12 := HP.out.fz 1 12 rfl)
    go_roundg kB
    case measure => omega
    case rel => exact ⟨_, j + 1, _, A6, c6, J4, j4, J5, j5, rfl, ⟨by have h1_ := HM.out; have h2_ := HIIj.out; have h3_ := HIj.out; unfold wrap64; omega⟩, ⟨by have := HIj.out; omega⟩, HN, HL6, ⟨Kd.F_step HF.out (fun k hk hlt => df_same (g := bf) (k := k) (fun h_ => Nat.lt_irrefl _ (h_ ▸ hk)) (.int .i64 cl.f0) (.bool cl.f1) (.int .i64 cl.f2) (.string cl.f3) (.slice J4 cl.f4.length j4) (.slice J5 cl.f5.length j5))⟩, ⟨(HR.out.step (fun k hk hlt => df_same (g := bf) (k := k) (by have := LT.out; omega) (.int .i64 cl.f0) (.bool cl.f1) (.int .i64 cl.f2) (.string cl.f3) (.slice J4 cl.f4.length j4) (.slice J5 cl.f5.length j5))).mono (fun k hk => by have := LT.out; omega)⟩, ⟨(HP.out.dflt 1 rfl (.int .i64 cl.f0) (.bool cl.f1) (.int .i64 cl.f2) (.string cl.f3) (.slice J4 cl.f4.length j4) (.slice J5 cl.f5.length j5)).tail⟩⟩
   rw [if_neg c_default] at hf2
   have c_defaulta : (key.toList == ([100, 101, 102, 97, 117, 108, 116] : List UInt8)) = false := beq_eq_false_iff_ne.2 c_default
   have c_defaultb : (key.toList != ([100, 101, 102, 97, 117, 108, 116] : List UInt8)) = true := bne_iff_ne.2 c_default
   replace c_default := Aside0.mk c_default
   injection hf2 with hf2
   subst hf2
   go_wp2_with fail
   go_roundg kB
   case measure => omega
   case rel => exact ⟨_, j + 1, _, A6, c6, A11, c11, A12, c12, rfl, ⟨by have h1_ := HM.out; have h2_ := HIIj.out; have h3_ := HIj.out; unfold wrap64; omega⟩, ⟨by have := HIj.out; omega⟩, HN, HL6, HF, HD, ⟨HP.out.tail⟩⟩
end Go.Proofs.YtlofkjdcapbohaaGreatDoor.PConfKeeps
