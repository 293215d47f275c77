/- For the law SchemaRound: the law itself, walked. No condition. -/
import Derived.Test.YtlofkjdcapbohaaGreatDoorCfT
namespace Go.Proofs.YtlofkjdcapbohaaGreatDoor.PConfKeeps
open Go.RowKit Go.Proofs.YtlofkjdcapbohaaGreatDoorW.PrintWords Go.Proofs.YtlofkjdcapbohaaGreatDoorW.PrintLast Go.Proofs.YtlofkjdcapbohaaGreatDoorW.PrintMore
set_option linter.unusedVariables false
set_option linter.unusedSimpArgs false

theorem k44_heap : Kd.Heap k44 := Kd.heap_iso _ (Kd.heap_pair Kd.heap_string (Kd.heap_pair (Kd.heap_int .i64) (Kd.heap_pair Kd.heap_bool (Kd.heap_pair Kd.heap_bool (Kd.heap_pair (Kd.heap_int .i64) (Kd.heap_pair (Kd.heap_int .i64) (Kd.heap_pair (Kd.heap_slice 9 Kd.heap_string) k25_heap)))))))
set_option maxHeartbeats 4000000 in
set_option maxRecDepth 100000 in
/-- SchemaValue returns an error. -/
theorem schema_bad (k : Nat) (l : List S44) (A : Option Addr) (c : Nat) (st : Bool) (x : S25) (w : World) (hkn : KN w) (hl : Kd.C k44 w A l.length l) (hc : l.length ≤ c) (hs : ∀ f ∈ l, f.f0.size ≤ maxLen) (er : Int) (hf : cSV k l st = some (x, er)) (he : er ≠ 0) (hz : Fsm k x z25 = some true) :
  Calls Tryz.prog 6 #[.agg #[.slice A l.length c, .bool st]] w fun e w' => e = .returned (.bool true) ∧ Below w.heap.size w w' := by
 have hu25 := Tryz.underlying25
 have hu41 := Tryz.underlying41
 have hu44 := Tryz.underlying44
 have HKN := Aside0.mk hkn
 have HL := Aside0.mk hl
 have HSZ := Aside0.mk hs
 have HF := Aside0.mk hf
 have HP := Aside0.mk (Bs.nil w)
 clear hkn hl hs hf
 have HZ := Aside0.mk hz
 clear hz
 go_enter Tryz.func6, Tryz.ntmps6
 go_upto_region 3 with (first | ((with_reducible refine gate_dst (N := 1) rfl ?_); refine box_event ?hg (N := 1) ?hd (cs := #[.slice A l.length c, .bool st]) (t := 41) ?hr ?_; (case hd => rfl); (case hg => rfl); (case hr => first | (go_simp; done) | (go_simp; rfl)); intro bs hg_ W1 hbox hb; have n0 := Aside0.mk (HP.out.new hg_ hbox hb); clear HP; have HP := n0; clear n0; clear hg_ hbox hb) | (go_at_call 7; refine (mastkeep2_awakeConf.calls true _ rfl).mono ?_; rintro e w3 ⟨rfl, hb⟩; have n0 := Aside0.mk (HP.out.below hb); clear HP; have HP := n0; clear n0; clear hb; have ys0 : w3.cell? ⟨bs, 0, none⟩ = some (.slice A l.length c) := HP.out.cl 0 0 rfl rfl; have ys1 : w3.cell? ⟨bs, 1, none⟩ = some (.bool st) := HP.out.cl 0 1 rfl rfl))
 have c1 := he
 have e1a : (er == 0) = false := beq_eq_false_iff_ne.2 c1
 have e1b : (er != 0) = true := bne_iff_ne.2 c1
 go_upto_region 4 with (first | (go_at_call 15; refine (SV_calls k l A c st (x, er) _ (HKN.out.below HP.out.B) (Kd.C_below HL.out HP.out.B) hc HSZ.out HF.out).mono ?_; rintro e w4 ⟨E4, e4, E5, e5, rfl, hr, hb⟩; have HR := Aside0.mk hr; have n0 := Aside0.mk (HP.out.below hb); clear HP; have HP := n0; clear n0; clear hb hr) | ((with_reducible refine gate_dst (N := 3) rfl ?_); refine box_event ?hg (N := 3) ?hd (cs := #[.int .i64 0, .bool false, .int .i64 0, .string ⟨#[]⟩, .slice none 0 0, .slice none 0 0]) (t := 25) ?hr ?_; (case hd => rfl); (case hg => rfl); (case hr => first | (go_simp; done) | (go_simp; rfl)); intro bx hg_ w5 hbox hb; have n0 := Aside0.mk (HP.out.new hg_ hbox hb); have n1 := Aside0.mk (HR.out.F.bound.below hb); have n2 := Aside0.mk ((show _ = bx from hg_.symm)); clear HP HR; have HP := n0; have HR := n1; have HGE := n2; clear n0 n1 n2; clear hg_ hbox hb; have yz0 : w5.cell? ⟨bx, 0, none⟩ = some (.int .i64 0) := HP.out.cl 0 0 rfl rfl; have yz1 : w5.cell? ⟨bx, 1, none⟩ = some (.bool false) := HP.out.cl 0 1 rfl rfl; have yz2 : w5.cell? ⟨bx, 2, none⟩ = some (.int .i64 0) := HP.out.cl 0 2 rfl rfl; have yz3 : w5.cell? ⟨bx, 3, none⟩ = some (.string ⟨#[]⟩) := HP.out.cl 0 3 rfl rfl; have yz4 : w5.cell? ⟨bx, 4, none⟩ = some (.slice none 0 0) := HP.out.cl 0 4 rfl rfl; have yz5 : w5.cell? ⟨bx, 5, none⟩ = some (.slice none 0 0) := HP.out.cl 0 5 rfl rfl; have zz0 := HP.out.fz 0 0 rfl; have zz1 := HP.out.fz 0 1 rfl; have zz2 := HP.out.fz 0 2 rfl; have zz3 := HP.out.fz 0 3 rfl; have zz4 := HP.out.fz 0 4 rfl; have zz5 := HP.out.fz 0 5 rfl))
 have n0 := Aside0.mk (HP.out.six 0 rfl (.int .i64 x.f0) (.bool x.f1) (.int .i64 x.f2) (.string x.f3) (.slice E4 x.f4.length e4) (.slice E5 x.f5.length e5))
 have n1 := Aside0.mk ((HR.out.six (g := bx) (fun k hk => by have := hk.2; have := HGE.out; omega) (.int .i64 x.f0) (.bool x.f1) (.int .i64 x.f2) (.string x.f3) (.slice E4 x.f4.length e4) (.slice E5 x.f5.length e5)).now)
 clear HP HR
 have HP := n0
 have HR := n1
 clear n0 n1
 clear HGE ys0 ys1 yz0 zz0 yz1 zz1 yz2 zz2 yz3 zz3 yz4 zz4 yz5 zz5
 generalize ((((((w5.setCell ⟨bx, 0, none⟩ (.int .i64 x.f0)).setCell ⟨bx, 1, none⟩ (.bool x.f1)).setCell ⟨bx, 2, none⟩ (.int .i64 x.f2)).setCell ⟨bx, 3, none⟩ (.string x.f3)).setCell ⟨bx, 4, none⟩ (.slice E4 x.f4.length e4)).setCell ⟨bx, 5, none⟩ (.slice E5 x.f5.length e5)) = w6 at HP HR ⊢
 have yx0 : w6.cell? ⟨bx, 0, none⟩ = some (.int .i64 x.f0) := HP.out.cl 0 0 rfl rfl
 have yx1 : w6.cell? ⟨bx, 1, none⟩ = some (.bool x.f1) := HP.out.cl 0 1 rfl rfl
 have yx2 : w6.cell? ⟨bx, 2, none⟩ = some (.int .i64 x.f2) := HP.out.cl 0 2 rfl rfl
 have yx3 : w6.cell? ⟨bx, 3, none⟩ = some (.string x.f3) := HP.out.cl 0 3 rfl rfl
 have yx4 : w6.cell? ⟨bx, 4, none⟩ = some (.slice E4 x.f4.length e4) := HP.out.cl 0 4 rfl rfl
 have yx5 : w6.cell? ⟨bx, 5, none⟩ = some (.slice E5 x.f5.length e5) := HP.out.cl 0 5 rfl rfl
 go_wp2_with ((go_at_call 9; refine (same_calls k x E4 e4 E5 e5 z25 none 0 none 0 true _ HR.out (Rd.nil _ _ _ _ _) HZ.out).mono ?_; rintro e w7 ⟨rfl, hb⟩; have n0 := Aside0.mk (HP.out.below hb); clear HP; have HP := n0; clear n0; clear hb))
 go_ret
 exact ⟨rfl, HP.out.B⟩
set_option maxHeartbeats 4000000 in
set_option maxRecDepth 100000 in
/-- SchemaValue returns a value. -/
theorem schema_good (k : Nat) (l : List S44) (A : Option Addr) (c : Nat) (st : Bool) (x : S25) (w : World) (hkn : KN w) (hl : Kd.C k44 w A l.length l) (hc : l.length ≤ c) (hs : ∀ f ∈ l, f.f0.size ≤ maxLen) (t : List S44) (F a : S25) (b1 b2 : Bool) (hf : cSV k l st = some (x, 0)) (hrs : RS k x t F a b1 b2) (hst : a.f1 = st) (hf2 : cSV k t st = some (x, 0)) (hsm : Fsm k x x = some true) :
  Calls Tryz.prog 6 #[.agg #[.slice A l.length c, .bool st]] w fun e w' => e = .returned (.bool true) ∧ Below w.heap.size w w' := by
 have hu25 := Tryz.underlying25
 have hu41 := Tryz.underlying41
 have hu44 := Tryz.underlying44
 have HKN := Aside0.mk hkn
 have HL := Aside0.mk hl
 have HSZ := Aside0.mk hs
 have HF := Aside0.mk hf
 have HP := Aside0.mk (Bs.nil w)
 clear hkn hl hs hf
 have HF2 := Aside0.mk hf2
 have HSM := Aside0.mk hsm
 have HSZ2 := Aside0.mk hrs.sz
 have HRS := Aside0.mk hrs
 have HST := Aside0.mk hst
 clear hf2 hsm hrs hst
 go_enter Tryz.func6, Tryz.ntmps6
 go_upto_region 3 with (first | ((with_reducible refine gate_dst (N := 1) rfl ?_); refine box_event ?hg (N := 1) ?hd (cs := #[.slice A l.length c, .bool st]) (t := 41) ?hr ?_; (case hd => rfl); (case hg => rfl); (case hr => first | (go_simp; done) | (go_simp; rfl)); intro bs hg_ W1 hbox hb; have n0 := Aside0.mk (HP.out.new hg_ hbox hb); clear HP; have HP := n0; clear n0; clear hg_ hbox hb) | (go_at_call 7; refine (mastkeep2_awakeConf.calls true _ rfl).mono ?_; rintro e w3 ⟨rfl, hb⟩; have n0 := Aside0.mk (HP.out.below hb); clear HP; have HP := n0; clear n0; clear hb; have ys0 : w3.cell? ⟨bs, 0, none⟩ = some (.slice A l.length c) := HP.out.cl 0 0 rfl rfl; have ys1 : w3.cell? ⟨bs, 1, none⟩ = some (.bool st) := HP.out.cl 0 1 rfl rfl))
 go_upto_region 4 with (first | (go_at_call 15; refine (SV_calls k l A c st (x, 0) _ (HKN.out.below HP.out.B) (Kd.C_below HL.out HP.out.B) hc HSZ.out HF.out).mono ?_; rintro e w4 ⟨E4, e4, E5, e5, rfl, hr, hb⟩; have HR := Aside0.mk hr; have n0 := Aside0.mk (HP.out.below hb); clear HP; have HP := n0; clear n0; clear hb hr) | ((with_reducible refine gate_dst (N := 3) rfl ?_); refine box_event ?hg (N := 3) ?hd (cs := #[.int .i64 0, .bool false, .int .i64 0, .string ⟨#[]⟩, .slice none 0 0, .slice none 0 0]) (t := 25) ?hr ?_; (case hd => rfl); (case hg => rfl); (case hr => first | (go_simp; done) | (go_simp; rfl)); intro bx hg_ w5 hbox hb; have n0 := Aside0.mk (HP.out.new hg_ hbox hb); have n1 := Aside0.mk (HR.out.F.bound.below hb); have n2 := Aside0.mk ((show _ = bx from hg_.symm)); clear HP HR; have HP := n0; have HR := n1; have HGE := n2; clear n0 n1 n2; clear hg_ hbox hb; have yz0 : w5.cell? ⟨bx, 0, none⟩ = some (.int .i64 0) := HP.out.cl 0 0 rfl rfl; have yz1 : w5.cell? ⟨bx, 1, none⟩ = some (.bool false) := HP.out.cl 0 1 rfl rfl; have yz2 : w5.cell? ⟨bx, 2, none⟩ = some (.int .i64 0) := HP.out.cl 0 2 rfl rfl; have yz3 : w5.cell? ⟨bx, 3, none⟩ = some (.string ⟨#[]⟩) := HP.out.cl 0 3 rfl rfl; have yz4 : w5.cell? ⟨bx, 4, none⟩ = some (.slice none 0 0) := HP.out.cl 0 4 rfl rfl; have yz5 : w5.cell? ⟨bx, 5, none⟩ = some (.slice none 0 0) := HP.out.cl 0 5 rfl rfl; have zz0 := HP.out.fz 0 0 rfl; have zz1 := HP.out.fz 0 1 rfl; have zz2 := HP.out.fz 0 2 rfl; have zz3 := HP.out.fz 0 3 rfl; have zz4 := HP.out.fz 0 4 rfl; have zz5 := HP.out.fz 0 5 rfl))
 have n0 := Aside0.mk (HP.out.six 0 rfl (.int .i64 x.f0) (.bool x.f1) (.int .i64 x.f2) (.string x.f3) (.slice E4 x.f4.length e4) (.slice E5 x.f5.length e5))
 have n1 := Aside0.mk ((HR.out.six (g := bx) (fun k hk => by have := hk.2; have := HGE.out; omega) (.int .i64 x.f0) (.bool x.f1) (.int .i64 x.f2) (.string x.f3) (.slice E4 x.f4.length e4) (.slice E5 x.f5.length e5)).now)
 clear HP HR
 have HP := n0
 have HR := n1
 clear n0 n1
 clear HGE ys0 ys1 yz0 zz0 yz1 zz1 yz2 zz2 yz3 zz3 yz4 zz4 yz5 zz5
 generalize ((((((w5.setCell ⟨bx, 0, none⟩ (.int .i64 x.f0)).setCell ⟨bx, 1, none⟩ (.bool x.f1)).setCell ⟨bx, 2, none⟩ (.int .i64 x.f2)).setCell ⟨bx, 3, none⟩ (.string x.f3)).setCell ⟨bx, 4, none⟩ (.slice E4 x.f4.length e4)).setCell ⟨bx, 5, none⟩ (.slice E5 x.f5.length e5)) = w6 at HP HR ⊢
 have yx0 : w6.cell? ⟨bx, 0, none⟩ = some (.int .i64 x.f0) := HP.out.cl 0 0 rfl rfl
 have yx1 : w6.cell? ⟨bx, 1, none⟩ = some (.bool x.f1) := HP.out.cl 0 1 rfl rfl
 have yx2 : w6.cell? ⟨bx, 2, none⟩ = some (.int .i64 x.f2) := HP.out.cl 0 2 rfl rfl
 have yx3 : w6.cell? ⟨bx, 3, none⟩ = some (.string x.f3) := HP.out.cl 0 3 rfl rfl
 have yx4 : w6.cell? ⟨bx, 4, none⟩ = some (.slice E4 x.f4.length e4) := HP.out.cl 0 4 rfl rfl
 have yx5 : w6.cell? ⟨bx, 5, none⟩ = some (.slice E5 x.f5.length e5) := HP.out.cl 0 5 rfl rfl
 go_upto_region 7 with (first | (go_at_call 16; refine (RSch_calls k x E4 e4 E5 e5 t F a b1 b2 _ (HKN.out.below HP.out.B) HR.out HRS.out).mono ?_; rintro e w7 ⟨T, tc, rfl, ht, hC, hb⟩; rw [HST.out]; have HT := Aside0.mk hC; have HTC := Aside0.mk ht; have n0 := Aside0.mk (HP.out.below hb); have n1 := Aside0.mk (HR.out.below hb); clear HP HR; have HP := n0; have HR := n1; clear n0 n1; clear hb hC ht) | ((with_reducible refine gate_dst (N := 5) rfl ?_); refine box_event ?hg (N := 5) ?hd (cs := #[.slice none 0 0, .bool false]) (t := 41) ?hr ?_; (case hd => rfl); (case hg => rfl); (case hr => first | (go_simp; done) | (go_simp; rfl)); intro b5 hg_ w8 hbox hb; have n0 := Aside0.mk (HP.out.new hg_ hbox hb); have n1 := Aside0.mk (HR.out.F.bound.below hb); have n2 := Aside0.mk (Kd.F_below (Kd.F_bound (Kd.C_F k44_heap HT.out)) hb); have n3 := Aside0.mk ((show _ = b5 from hg_.symm)); clear HP HR HT; have HP := n0; have HR := n1; have HT := n2; have HGE := n3; clear n0 n1 n2 n3; clear hg_ hbox hb; have yz0 : w8.cell? ⟨b5, 0, none⟩ = some (.slice none 0 0) := HP.out.cl 0 0 rfl rfl; have yz1 : w8.cell? ⟨b5, 1, none⟩ = some (.bool false) := HP.out.cl 0 1 rfl rfl; have zz0 := HP.out.fz 0 0 rfl; have zz1 := HP.out.fz 0 1 rfl))
 have n0 := Aside0.mk (HP.out.two 0 rfl (.slice T t.length tc) (.bool st))
 have n1 := Aside0.mk ((HR.out.step (fun k hk hlt => two_same (g := b5) (k := k) (by have := hk.2; have := HGE.out; omega) (.slice T t.length tc) (.bool st))).now)
 have n2 := Aside0.mk (Kd.F_now (Kd.F_step HT.out (fun k hk hlt => two_same (g := b5) (k := k) (by have := hk.2; have := HGE.out; omega) (.slice T t.length tc) (.bool st))))
 clear HP HR HT
 have HP := n0
 have HR := n1
 have HT := n2
 clear n0 n1 n2
 clear HGE yz0 yz1 zz0 zz1 yx0 yx1 yx2 yx3 yx4 yx5
 generalize (w8.setCell ⟨b5, 0, none⟩ (.slice T t.length tc)).setCell ⟨b5, 1, none⟩ (.bool st) = w9 at HP HR HT ⊢
 have yt0 : w9.cell? ⟨b5, 0, none⟩ = some (.slice T t.length tc) := HP.out.cl 0 0 rfl rfl
 have yt1 : w9.cell? ⟨b5, 1, none⟩ = some (.bool st) := HP.out.cl 0 1 rfl rfl
 go_upto_region 8 with (first | (go_at_call 15; refine (SV_calls k t T tc st (x, 0) _ (HKN.out.below HP.out.B) HT.out HTC.out HSZ2.out HF2.out).mono ?_; rintro e wa ⟨J4, j4, J5, j5, rfl, hr, hb⟩; have HY := Aside0.mk hr; have n0 := Aside0.mk (HP.out.below hb); have n1 := Aside0.mk (HR.out.below hb); clear HP HR; have HP := n0; have HR := n1; clear n0 n1; clear hb hr) | ((with_reducible refine gate_dst (N := 6) rfl ?_); refine box_event ?hg (N := 6) ?hd (cs := #[.int .i64 0, .bool false, .int .i64 0, .string ⟨#[]⟩, .slice none 0 0, .slice none 0 0]) (t := 25) ?hr ?_; (case hd => rfl); (case hg => rfl); (case hr => first | (go_simp; done) | (go_simp; rfl)); intro by_ hg_ wb hbox hb; have n0 := Aside0.mk (HP.out.new hg_ hbox hb); have n1 := Aside0.mk (HR.out.F.bound.below hb); have n2 := Aside0.mk (HY.out.F.bound.below hb); have n3 := Aside0.mk ((show _ = by_ from hg_.symm)); clear HP HR HY; have HP := n0; have HR := n1; have HY := n2; have HGE := n3; clear n0 n1 n2 n3; clear hg_ hbox hb; have yz0 : wb.cell? ⟨by_, 0, none⟩ = some (.int .i64 0) := HP.out.cl 0 0 rfl rfl; have yz1 : wb.cell? ⟨by_, 1, none⟩ = some (.bool false) := HP.out.cl 0 1 rfl rfl; have yz2 : wb.cell? ⟨by_, 2, none⟩ = some (.int .i64 0) := HP.out.cl 0 2 rfl rfl; have yz3 : wb.cell? ⟨by_, 3, none⟩ = some (.string ⟨#[]⟩) := HP.out.cl 0 3 rfl rfl; have yz4 : wb.cell? ⟨by_, 4, none⟩ = some (.slice none 0 0) := HP.out.cl 0 4 rfl rfl; have yz5 : wb.cell? ⟨by_, 5, none⟩ = some (.slice none 0 0) := HP.out.cl 0 5 rfl rfl; have zz0 := HP.out.fz 0 0 rfl; have zz1 := HP.out.fz 0 1 rfl; have zz2 := HP.out.fz 0 2 rfl; have zz3 := HP.out.fz 0 3 rfl; have zz4 := HP.out.fz 0 4 rfl; have zz5 := HP.out.fz 0 5 rfl))
 have n0 := Aside0.mk (HP.out.six 0 rfl (.int .i64 x.f0) (.bool x.f1) (.int .i64 x.f2) (.string x.f3) (.slice J4 x.f4.length j4) (.slice J5 x.f5.length j5))
 have n1 := Aside0.mk ((HR.out.six (g := by_) (fun k hk => by have := hk.2; have := HGE.out; omega) (.int .i64 x.f0) (.bool x.f1) (.int .i64 x.f2) (.string x.f3) (.slice J4 x.f4.length j4) (.slice J5 x.f5.length j5)).now)
 have n2 := Aside0.mk ((HY.out.six (g := by_) (fun k hk => by have := hk.2; have := HGE.out; omega) (.int .i64 x.f0) (.bool x.f1) (.int .i64 x.f2) (.string x.f3) (.slice J4 x.f4.length j4) (.slice J5 x.f5.length j5)).now)
 clear HP HR HY
 have HP := n0
 have HR := n1
 have HY := n2
 clear n0 n1 n2
 clear HGE yt0 yt1 yz0 zz0 yz1 zz1 yz2 zz2 yz3 zz3 yz4 zz4 yz5 zz5
 generalize ((((((wb.setCell ⟨by_, 0, none⟩ (.int .i64 x.f0)).setCell ⟨by_, 1, none⟩ (.bool x.f1)).setCell ⟨by_, 2, none⟩ (.int .i64 x.f2)).setCell ⟨by_, 3, none⟩ (.string x.f3)).setCell ⟨by_, 4, none⟩ (.slice J4 x.f4.length j4)).setCell ⟨by_, 5, none⟩ (.slice J5 x.f5.length j5)) = wc at HP HR HY ⊢
 have yx0 : wc.cell? ⟨bx, 0, none⟩ = some (.int .i64 x.f0) := HP.out.cl 2 0 rfl rfl
 have yx1 : wc.cell? ⟨bx, 1, none⟩ = some (.bool x.f1) := HP.out.cl 2 1 rfl rfl
 have yx2 : wc.cell? ⟨bx, 2, none⟩ = some (.int .i64 x.f2) := HP.out.cl 2 2 rfl rfl
 have yx3 : wc.cell? ⟨bx, 3, none⟩ = some (.string x.f3) := HP.out.cl 2 3 rfl rfl
 have yx4 : wc.cell? ⟨bx, 4, none⟩ = some (.slice E4 x.f4.length e4) := HP.out.cl 2 4 rfl rfl
 have yx5 : wc.cell? ⟨bx, 5, none⟩ = some (.slice E5 x.f5.length e5) := HP.out.cl 2 5 rfl rfl
 have yy0 : wc.cell? ⟨by_, 0, none⟩ = some (.int .i64 x.f0) := HP.out.cl 0 0 rfl rfl
 have yy1 : wc.cell? ⟨by_, 1, none⟩ = some (.bool x.f1) := HP.out.cl 0 1 rfl rfl
 have yy2 : wc.cell? ⟨by_, 2, none⟩ = some (.int .i64 x.f2) := HP.out.cl 0 2 rfl rfl
 have yy3 : wc.cell? ⟨by_, 3, none⟩ = some (.string x.f3) := HP.out.cl 0 3 rfl rfl
 have yy4 : wc.cell? ⟨by_, 4, none⟩ = some (.slice J4 x.f4.length j4) := HP.out.cl 0 4 rfl rfl
 have yy5 : wc.cell? ⟨by_, 5, none⟩ = some (.slice J5 x.f5.length j5) := HP.out.cl 0 5 rfl rfl
 go_wp2_with (go_at_call 9; refine (same_calls k x E4 e4 E5 e5 x J4 j4 J5 j5 true _ HR.out HY.out HSM.out).mono ?_; rintro e wd ⟨rfl, hb⟩; have n0 := Aside0.mk (HP.out.below hb); clear HP; have HP := n0; clear n0; clear hb)
 go_ret
 exact ⟨rfl, HP.out.B⟩
end Go.Proofs.YtlofkjdcapbohaaGreatDoor.PConfKeeps
