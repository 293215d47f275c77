/- For the law ConfKeeps: Routes and the law itself, walked. No condition. -/
import Derived.Test.YtlofkjdcapbohaaGreatDoorCfD
import Derived.Test.YtlofkjdcapbohaaGreatDoorPConfKeepsx12
namespace Go.Proofs.YtlofkjdcapbohaaGreatDoor.PConfKeeps
open Go.RowKit Go.Proofs.YtlofkjdcapbohaaGreatDoorW.PrintWords Go.Proofs.YtlofkjdcapbohaaGreatDoorW.PrintLast Go.Proofs.YtlofkjdcapbohaaGreatDoorW.PrintMore
set_option linter.unusedVariables false
set_option linter.unusedSimpArgs false

def cRoutes (k n : Nat) (v : S25) : Option (List ByteArray × Int) := (Fck k v).bind fun e => if e = 0 then (croutes n v ⟨#[]⟩).bind fun l => if l.length ≤ 1000000 then some (l, 0) else none else some ([], e)
def Fsm (k : Nat) (v x : S25) : Option Bool := mastkeep2_same.f k v.f0 v.f1 v.f2 v.f3 v.f4 v.f5 x.f0 x.f1 x.f2 x.f3 x.f4 x.f5
theorem same_calls (k : Nat) (v : S25) (A4 : Option Addr) (c4 : Nat) (A5 : Option Addr) (c5 : Nat) (x : S25) (B4 : Option Addr) (d4 : Nat) (B5 : Option Addr) (d5 : Nat) (b : Bool) (w : World) (hv : Rd w v A4 c4 A5 c5) (hx : Rd w x B4 d4 B5 d5) (h : Fsm k v x = some b) : Calls Tryz.prog 9 #[.agg #[.int .i64 v.f0, .bool v.f1, .int .i64 v.f2, .string v.f3, .slice A4 v.f4.length c4, .slice A5 v.f5.length c5], .agg #[.int .i64 x.f0, .bool x.f1, .int .i64 x.f2, .string x.f3, .slice B4 x.f4.length d4, .slice B5 x.f5.length d5]] w fun e w' => e = .returned (.bool b) ∧ Below w.heap.size w w' :=
  (mastkeep2_same.calls k v.f0 v.f1 v.f2 v.f3 A4 c4 v.f4 A5 c5 v.f5 x.f0 x.f1 x.f2 x.f3 B4 d4 x.f4 B5 d5 x.f5 b w hv.1 hv.2.1 hv.2.2.1 hv.2.2.2 hx.1 hx.2.1 hx.2.2.1 hx.2.2.2 h)
set_option maxHeartbeats 4000000 in
set_option maxRecDepth 100000 in
theorem Routes_calls (k n : Nat) (v : S25) (A4 : Option Addr) (c4 : Nat) (A5 : Option Addr) (c5 : Nat) (r : List ByteArray × Int) (B : Nat) (w : World) (hp : PT B w) (hv : Rd w v A4 c4 A5 c5) (h : cRoutes k n v = some r) :
    Calls Tryz.prog 11 #[.agg #[.int .i64 v.f0, .bool v.f1, .int .i64 v.f2, .string v.f3, .slice A4 v.f4.length c4, .slice A5 v.f5.length c5]] w fun e w' => ∃ A c, e = .returned (.tuple #[.slice A r.1.length c, .int .i64 r.2]) ∧ Kd.C Kd.string w' A r.1.length r.1 ∧ r.1.length ≤ c ∧ Below w.heap.size w w' := by
  have hu25 := Tryz.underlying25
  have HV := Aside0.mk hv
  have HP := Aside0.mk (Bs.nil w)
  have HT := Aside0.mk hp
  clear hp
  unfold cRoutes at h
  obtain ⟨e1, hck, h⟩ := Option.bind_eq_some_iff.1 h
  have HC := Aside0.mk hck
  clear hv hck
  go_enter Tryz.func11, Tryz.ntmps11
  go_upto_region 1 with (((with_reducible refine gate_dst (N := 1) rfl ?_); refine box_event ?hg (N := 1) ?hd (cs := #[.int .i64 v.f0, .bool v.f1, .int .i64 v.f2, .string v.f3, .slice A4 v.f4.length c4, .slice A5 v.f5.length c5]) (t := 25) ?hr ?_; (case hd => rfl); (case hg => rfl); (case hr => first | (go_simp; done) | (go_simp; rfl)); intro bv hg_ W1 hbox hb; have n0 := Aside0.mk (HP.out.new hg_ hbox hb); clear HP; have HP := n0; clear n0; clear hg_ hbox hb))
  have yv0 : W1.cell? ⟨bv, 0, none⟩ = some (.int .i64 v.f0) := (blk_cell (HP.out.get 0 rfl) 0).trans rfl
  have yv1 : W1.cell? ⟨bv, 1, none⟩ = some (.bool v.f1) := (blk_cell (HP.out.get 0 rfl) 1).trans rfl
  have yv2 : W1.cell? ⟨bv, 2, none⟩ = some (.int .i64 v.f2) := (blk_cell (HP.out.get 0 rfl) 2).trans rfl
  have yv3 : W1.cell? ⟨bv, 3, none⟩ = some (.string v.f3) := (blk_cell (HP.out.get 0 rfl) 3).trans rfl
  have yv4 : W1.cell? ⟨bv, 4, none⟩ = some (.slice A4 v.f4.length c4) := (blk_cell (HP.out.get 0 rfl) 4).trans rfl
  have yv5 : W1.cell? ⟨bv, 5, none⟩ = some (.slice A5 v.f5.length c5) := (blk_cell (HP.out.get 0 rfl) 5).trans rfl
  by_cases c1 : e1 = 0
  case neg =>
    rw [if_neg c1] at h
    injection h with h
    subst h
    have e1a : (e1 == 0) = false := beq_eq_false_iff_ne.2 c1
    have e1b : (e1 != 0) = true := bne_iff_ne.2 c1
    go_wp2_with ((go_at_call 18; refine (check_calls k v A4 c4 A5 c5 e1 _ (HV.out.below HP.out.B) HC.out).mono ?_; rintro e w5 ⟨rfl, hb⟩; have n0 := Aside0.mk (HP.out.below hb); clear HP; have HP := n0; clear n0; clear hb))
    go_ret2
    exact ⟨none, ⟨0, rfl⟩, Kd.C_nil _ _, HP.out.B⟩
  rw [if_pos c1] at h
  obtain ⟨l, hl, h⟩ := Option.bind_eq_some_iff.1 h
  by_cases c2 : l.length ≤ 1000000
  case neg => rw [if_neg c2] at h; cases h
  rw [if_pos c2] at h
  injection h with h
  subst h
  have HL := Aside0.mk hl
  clear hl
  have e1a : (e1 == 0) = true := beq_iff_eq.2 c1
  have e1b : (e1 != 0) = false := bne_eq_false_iff_eq.2 c1
  go_upto_region 4 with ((go_at_call 18; refine (check_calls k v A4 c4 A5 c5 e1 _ (HV.out.below HP.out.B) HC.out).mono ?_; rintro e w5 ⟨rfl, hb⟩; have n0 := Aside0.mk (HP.out.below hb); clear HP; have HP := n0; clear n0; clear hb; have yu0 : w5.cell? ⟨bv, 0, none⟩ = some (.int .i64 v.f0) := (blk_cell (HP.out.get 0 rfl) 0).trans rfl; have yu1 : w5.cell? ⟨bv, 1, none⟩ = some (.bool v.f1) := (blk_cell (HP.out.get 0 rfl) 1).trans rfl; have yu2 : w5.cell? ⟨bv, 2, none⟩ = some (.int .i64 v.f2) := (blk_cell (HP.out.get 0 rfl) 2).trans rfl; have yu3 : w5.cell? ⟨bv, 3, none⟩ = some (.string v.f3) := (blk_cell (HP.out.get 0 rfl) 3).trans rfl; have yu4 : w5.cell? ⟨bv, 4, none⟩ = some (.slice A4 v.f4.length c4) := (blk_cell (HP.out.get 0 rfl) 4).trans rfl; have yu5 : w5.cell? ⟨bv, 5, none⟩ = some (.slice A5 v.f5.length c5) := (blk_cell (HP.out.get 0 rfl) 5).trans rfl))
  clear yv0 yv1 yv2 yv3 yv4 yv5
  go_wp2_with ((go_at_call 24; refine (routes_calls n v A4 c4 A5 c5 ⟨#[]⟩ [] l (.slice none 0 0) B _ ((HV.out.F.below HP.out.B).mono (fun k _ => by simp [Value.ownBlock])) (Kd.R_nil _ _ _ _ _) (HT.out.below HP.out.B) (by simp; omega) HL.out).mono ?_; rintro e w6 ⟨v1, rfl, ho, hg, _⟩; have hb := below_none hg; obtain ⟨Al, cl, rfl, hlc, hC⟩ := Kd.R_reads ho; have HR := Aside0.mk hC; have HLC := Aside0.mk hlc; have n0 := Aside0.mk (HP.out.below hb); clear HP; have HP := n0; clear n0; clear hb hg ho hlc hC))
  go_ret2
  exact ⟨Al, cl, rfl, HR.out, HLC.out, HP.out.B⟩
set_option maxHeartbeats 4000000 in
set_option maxRecDepth 100000 in
/-- Set returns an error. -/
theorem keeps_bad (k n : Nat) (v : S25) (A4 : Option Addr) (c4 : Nat) (A5 : Option Addr) (c5 : Nat) (route : ByteArray) (x : S25) (B4 : Option Addr) (d4 : Nat) (B5 : Option Addr) (d5 : Nat) (s : S25) (er : Int) (w : World) (hv : Rd w v A4 c4 A5 c5) (hx : Rd w x B4 d4 B5 d5) (hs : cSet k v route x = some (s, er)) (he : er ≠ 0) (hz : Fsm k s z25 = some true) :
    Calls Tryz.prog 3 #[.agg #[.int .i64 v.f0, .bool v.f1, .int .i64 v.f2, .string v.f3, .slice A4 v.f4.length c4, .slice A5 v.f5.length c5], .string route, .agg #[.int .i64 x.f0, .bool x.f1, .int .i64 x.f2, .string x.f3, .slice B4 x.f4.length d4, .slice B5 x.f5.length d5]] w fun e w' => e = .returned (.bool true) ∧ Below w.heap.size w w' := by
  have hu25 := Tryz.underlying25
  have HV := Aside0.mk hv
  have HX := Aside0.mk hx
  have HS := Aside0.mk hs
  have HP := Aside0.mk (Bs.nil w)
  clear hv hx hs
  have HZ := Aside0.mk hz
  clear hz
  go_enter Tryz.func3, Tryz.ntmps3
  go_upto_region 3 with (first | ((with_reducible refine gate_dst (N := 3) rfl ?_); refine box_event ?hg (N := 3) ?hd (cs := #[.int .i64 v.f0, .bool v.f1, .int .i64 v.f2, .string v.f3, .slice A4 v.f4.length c4, .slice A5 v.f5.length c5]) (t := 25) ?hr ?_; (case hd => rfl); (case hg => rfl); (case hr => first | (go_simp; done) | (go_simp; rfl)); intro bv hg_ W1 hbox hb; have n0 := Aside0.mk (HP.out.new hg_ hbox hb); clear HP; have HP := n0; clear n0; clear hg_ hbox hb) | ((with_reducible refine gate_dst (N := 5) rfl ?_); refine box_event ?hg (N := 5) ?hd (cs := #[.int .i64 x.f0, .bool x.f1, .int .i64 x.f2, .string x.f3, .slice B4 x.f4.length d4, .slice B5 x.f5.length d5]) (t := 25) ?hr ?_; (case hd => rfl); (case hg => rfl); (case hr => first | (go_simp; done) | (go_simp; rfl)); intro bx hg_ W2 hbox hb; have n0 := Aside0.mk (HP.out.new hg_ hbox hb); clear HP; have HP := n0; clear n0; clear hg_ hbox hb) | (go_at_call 7; refine (mastkeep2_awakeConf.calls true _ rfl).mono ?_; rintro e w3 ⟨rfl, hb⟩; have n0 := Aside0.mk (HP.out.below hb); clear HP; have HP := n0; clear n0; clear hb; have yv0 : w3.cell? ⟨bv, 0, none⟩ = some (.int .i64 v.f0) := (blk_cell (HP.out.get 1 rfl) 0).trans rfl; have yv1 : w3.cell? ⟨bv, 1, none⟩ = some (.bool v.f1) := (blk_cell (HP.out.get 1 rfl) 1).trans rfl; have yv2 : w3.cell? ⟨bv, 2, none⟩ = some (.int .i64 v.f2) := (blk_cell (HP.out.get 1 rfl) 2).trans rfl; have yv3 : w3.cell? ⟨bv, 3, none⟩ = some (.string v.f3) := (blk_cell (HP.out.get 1 rfl) 3).trans rfl; have yv4 : w3.cell? ⟨bv, 4, none⟩ = some (.slice A4 v.f4.length c4) := (blk_cell (HP.out.get 1 rfl) 4).trans rfl; have yv5 : w3.cell? ⟨bv, 5, none⟩ = some (.slice A5 v.f5.length c5) := (blk_cell (HP.out.get 1 rfl) 5).trans rfl; have yx0 : w3.cell? ⟨bx, 0, none⟩ = some (.int .i64 x.f0) := (blk_cell (HP.out.get 0 rfl) 0).trans rfl; have yx1 : w3.cell? ⟨bx, 1, none⟩ = some (.bool x.f1) := (blk_cell (HP.out.get 0 rfl) 1).trans rfl; have yx2 : w3.cell? ⟨bx, 2, none⟩ = some (.int .i64 x.f2) := (blk_cell (HP.out.get 0 rfl) 2).trans rfl; have yx3 : w3.cell? ⟨bx, 3, none⟩ = some (.string x.f3) := (blk_cell (HP.out.get 0 rfl) 3).trans rfl; have yx4 : w3.cell? ⟨bx, 4, none⟩ = some (.slice B4 x.f4.length d4) := (blk_cell (HP.out.get 0 rfl) 4).trans rfl; have yx5 : w3.cell? ⟨bx, 5, none⟩ = some (.slice B5 x.f5.length d5) := (blk_cell (HP.out.get 0 rfl) 5).trans rfl))
  have c1 := he
  have e1a : (er == 0) = false := beq_eq_false_iff_ne.2 c1
  have e1b : (er != 0) = true := bne_iff_ne.2 c1
  go_upto_region 4 with (first | (go_at_call 8; refine (Set_calls k v A4 c4 A5 c5 route x B4 d4 B5 d5 (s, er) _ (HV.out.below HP.out.B) (HX.out.below HP.out.B) HS.out).mono ?_; rintro e w4 ⟨E4, e4, E5, e5, rfl, hr, hb⟩; have HR := Aside0.mk hr; have n0 := Aside0.mk (HP.out.below hb); clear HP; have HP := n0; clear n0; clear hb hr) | ((with_reducible refine gate_dst (N := 7) rfl ?_); refine box_event ?hg (N := 7) ?hd (cs := #[.int .i64 0, .bool false, .int .i64 0, .string ⟨#[]⟩, .slice none 0 0, .slice none 0 0]) (t := 25) ?hr ?_; (case hd => rfl); (case hg => rfl); (case hr => first | (go_simp; done) | (go_simp; rfl)); intro bs hg_ w5 hbox hb; have n0 := Aside0.mk (HP.out.new hg_ hbox hb); have n1 := Aside0.mk (HR.out.below hb); have n2 := Aside0.mk (HR.out.F.bound.below hb); have n3 := Aside0.mk ((show _ = bs from hg_.symm)); clear HP HR; have HP := n0; have HR := n1; have HRF := n2; have HGE := n3; clear n0 n1 n2 n3; clear hg_ hbox hb; have ys0 : w5.cell? ⟨bs, 0, none⟩ = some (.int .i64 0) := (blk_cell (HP.out.get 0 rfl) 0).trans rfl; have ys1 : w5.cell? ⟨bs, 1, none⟩ = some (.bool false) := (blk_cell (HP.out.get 0 rfl) 1).trans rfl; have ys2 : w5.cell? ⟨bs, 2, none⟩ = some (.int .i64 0) := (blk_cell (HP.out.get 0 rfl) 2).trans rfl; have ys3 : w5.cell? ⟨bs, 3, none⟩ = some (.string ⟨#[]⟩) := (blk_cell (HP.out.get 0 rfl) 3).trans rfl; have ys4 : w5.cell? ⟨bs, 4, none⟩ = some (.slice none 0 0) := (blk_cell (HP.out.get 0 rfl) 4).trans rfl; have ys5 : w5.cell? ⟨bs, 5, none⟩ = some (.slice none 0 0) := (blk_cell (HP.out.get 0 rfl) 5).trans rfl; have zs0 := blk_frozen (HP.out.get 0 rfl) 0; have zs1 := blk_frozen (HP.out.get 0 rfl) 1; have zs2 := blk_frozen (HP.out.get 0 rfl) 2; have zs3 := blk_frozen (HP.out.get 0 rfl) 3; have zs4 := blk_frozen (HP.out.get 0 rfl) 4; have zs5 := blk_frozen (HP.out.get 0 rfl) 5))
  have n0 := Aside0.mk (HP.out.six 0 rfl (.int .i64 s.f0) (.bool s.f1) (.int .i64 s.f2) (.string s.f3) (.slice E4 s.f4.length e4) (.slice E5 s.f5.length e5))
  have n1 := Aside0.mk ((HRF.out.six (g := bs) (fun k hk => by have := hk.2; have := HGE.out; omega) (.int .i64 s.f0) (.bool s.f1) (.int .i64 s.f2) (.string s.f3) (.slice E4 s.f4.length e4) (.slice E5 s.f5.length e5)).now)
  clear HP HR
  have HP := n0
  have HR := n1
  clear n0 n1
  clear HRF HGE ys0 zs0 ys1 zs1 ys2 zs2 ys3 zs3 ys4 zs4 ys5 zs5
  generalize ((((((w5.setCell ⟨bs, 0, none⟩ (.int .i64 s.f0)).setCell ⟨bs, 1, none⟩ (.bool s.f1)).setCell ⟨bs, 2, none⟩ (.int .i64 s.f2)).setCell ⟨bs, 3, none⟩ (.string s.f3)).setCell ⟨bs, 4, none⟩ (.slice E4 s.f4.length e4)).setCell ⟨bs, 5, none⟩ (.slice E5 s.f5.length e5)) = w6 at HP HR  ⊢
  have ys0 : w6.cell? ⟨bs, 0, none⟩ = some (.int .i64 s.f0) := (blk_cell (HP.out.get 0 rfl) 0).trans rfl
  have ys1 : w6.cell? ⟨bs, 1, none⟩ = some (.bool s.f1) := (blk_cell (HP.out.get 0 rfl) 1).trans rfl
  have ys2 : w6.cell? ⟨bs, 2, none⟩ = some (.int .i64 s.f2) := (blk_cell (HP.out.get 0 rfl) 2).trans rfl
  have ys3 : w6.cell? ⟨bs, 3, none⟩ = some (.string s.f3) := (blk_cell (HP.out.get 0 rfl) 3).trans rfl
  have ys4 : w6.cell? ⟨bs, 4, none⟩ = some (.slice E4 s.f4.length e4) := (blk_cell (HP.out.get 0 rfl) 4).trans rfl
  have ys5 : w6.cell? ⟨bs, 5, none⟩ = some (.slice E5 s.f5.length e5) := (blk_cell (HP.out.get 0 rfl) 5).trans rfl
  go_wp2_with ((go_at_call 9; refine (same_calls k s E4 e4 E5 e5 z25 none 0 none 0 true _ HR.out (Rd.nil _ _ _ _ _) HZ.out).mono ?_; rintro e w7 ⟨rfl, hb⟩; have n0 := Aside0.mk (HP.out.below hb); clear HP; have HP := n0; clear n0; clear hb))
  go_ret
  exact ⟨rfl, HP.out.B⟩
set_option maxHeartbeats 8000000 in
set_option maxRecDepth 100000 in
/-- Set, Get and Routes return values. -/
theorem keeps_good (k n : Nat) (v : S25) (A4 : Option Addr) (c4 : Nat) (A5 : Option Addr) (c5 : Nat) (route : ByteArray) (x : S25) (B4 : Option Addr) (d4 : Nat) (B5 : Option Addr) (d5 : Nat) (s y : S25) (all : List ByteArray) (w : World) (hp : PT w.heap.size w) (hv : Rd w v A4 c4 A5 c5) (hx : Rd w x B4 d4 B5 d5) (hs : cSet k v route x = some (s, 0)) (hg : cGet k s route = some (y, 0)) (hsm : Fsm k x y = some true) (ha : cRoutes k n s = some (all, 0)) (hall : ∀ q ∈ all, ∃ g, cGet k s q = some (g, 0)) :
    Calls Tryz.prog 3 #[.agg #[.int .i64 v.f0, .bool v.f1, .int .i64 v.f2, .string v.f3, .slice A4 v.f4.length c4, .slice A5 v.f5.length c5], .string route, .agg #[.int .i64 x.f0, .bool x.f1, .int .i64 x.f2, .string x.f3, .slice B4 x.f4.length d4, .slice B5 x.f5.length d5]] w fun e w' => e = .returned (.bool true) ∧ Below w.heap.size w w' := by
  have hu25 := Tryz.underlying25
  have HV := Aside0.mk hv
  have HX := Aside0.mk hx
  have HS := Aside0.mk hs
  have HP := Aside0.mk (Bs.nil w)
  clear hv hx hs
  have HT := Aside0.mk hp
  clear hp
  have HG := Aside0.mk hg
  have HSM := Aside0.mk hsm
  have HA := Aside0.mk ha
  have HALL := Aside0.mk hall
  clear hg hsm ha hall
  go_enter Tryz.func3, Tryz.ntmps3
  go_upto_region 3 with (first | ((with_reducible refine gate_dst (N := 3) rfl ?_); refine box_event ?hg (N := 3) ?hd (cs := #[.int .i64 v.f0, .bool v.f1, .int .i64 v.f2, .string v.f3, .slice A4 v.f4.length c4, .slice A5 v.f5.length c5]) (t := 25) ?hr ?_; (case hd => rfl); (case hg => rfl); (case hr => first | (go_simp; done) | (go_simp; rfl)); intro bv hg_ W1 hbox hb; have n0 := Aside0.mk (HP.out.new hg_ hbox hb); clear HP; have HP := n0; clear n0; clear hg_ hbox hb) | ((with_reducible refine gate_dst (N := 5) rfl ?_); refine box_event ?hg (N := 5) ?hd (cs := #[.int .i64 x.f0, .bool x.f1, .int .i64 x.f2, .string x.f3, .slice B4 x.f4.length d4, .slice B5 x.f5.length d5]) (t := 25) ?hr ?_; (case hd => rfl); (case hg => rfl); (case hr => first | (go_simp; done) | (go_simp; rfl)); intro bx hg_ W2 hbox hb; have n0 := Aside0.mk (HP.out.new hg_ hbox hb); clear HP; have HP := n0; clear n0; clear hg_ hbox hb) | (go_at_call 7; refine (mastkeep2_awakeConf.calls true _ rfl).mono ?_; rintro e w3 ⟨rfl, hb⟩; have n0 := Aside0.mk (HP.out.below hb); clear HP; have HP := n0; clear n0; clear hb; have yv0 : w3.cell? ⟨bv, 0, none⟩ = some (.int .i64 v.f0) := (blk_cell (HP.out.get 1 rfl) 0).trans rfl; have yv1 : w3.cell? ⟨bv, 1, none⟩ = some (.bool v.f1) := (blk_cell (HP.out.get 1 rfl) 1).trans rfl; have yv2 : w3.cell? ⟨bv, 2, none⟩ = some (.int .i64 v.f2) := (blk_cell (HP.out.get 1 rfl) 2).trans rfl; have yv3 : w3.cell? ⟨bv, 3, none⟩ = some (.string v.f3) := (blk_cell (HP.out.get 1 rfl) 3).trans rfl; have yv4 : w3.cell? ⟨bv, 4, none⟩ = some (.slice A4 v.f4.length c4) := (blk_cell (HP.out.get 1 rfl) 4).trans rfl; have yv5 : w3.cell? ⟨bv, 5, none⟩ = some (.slice A5 v.f5.length c5) := (blk_cell (HP.out.get 1 rfl) 5).trans rfl; have yx0 : w3.cell? ⟨bx, 0, none⟩ = some (.int .i64 x.f0) := (blk_cell (HP.out.get 0 rfl) 0).trans rfl; have yx1 : w3.cell? ⟨bx, 1, none⟩ = some (.bool x.f1) := (blk_cell (HP.out.get 0 rfl) 1).trans rfl; have yx2 : w3.cell? ⟨bx, 2, none⟩ = some (.int .i64 x.f2) := (blk_cell (HP.out.get 0 rfl) 2).trans rfl; have yx3 : w3.cell? ⟨bx, 3, none⟩ = some (.string x.f3) := (blk_cell (HP.out.get 0 rfl) 3).trans rfl; have yx4 : w3.cell? ⟨bx, 4, none⟩ = some (.slice B4 x.f4.length d4) := (blk_cell (HP.out.get 0 rfl) 4).trans rfl; have yx5 : w3.cell? ⟨bx, 5, none⟩ = some (.slice B5 x.f5.length d5) := (blk_cell (HP.out.get 0 rfl) 5).trans rfl))
  go_upto_region 4 with (first | (go_at_call 8; refine (Set_calls k v A4 c4 A5 c5 route x B4 d4 B5 d5 (s, 0) _ (HV.out.below HP.out.B) (HX.out.below HP.out.B) HS.out).mono ?_; rintro e w4 ⟨E4, e4, E5, e5, rfl, hr, hb⟩; have HR := Aside0.mk hr; have n0 := Aside0.mk (HP.out.below hb); clear HP; have HP := n0; clear n0; clear hb hr) | ((with_reducible refine gate_dst (N := 7) rfl ?_); refine box_event ?hg (N := 7) ?hd (cs := #[.int .i64 0, .bool false, .int .i64 0, .string ⟨#[]⟩, .slice none 0 0, .slice none 0 0]) (t := 25) ?hr ?_; (case hd => rfl); (case hg => rfl); (case hr => first | (go_simp; done) | (go_simp; rfl)); intro bs hg_ w5 hbox hb; have n0 := Aside0.mk (HP.out.new hg_ hbox hb); have n1 := Aside0.mk (HR.out.below hb); have n2 := Aside0.mk (HR.out.F.bound.below hb); have n3 := Aside0.mk ((show _ = bs from hg_.symm)); clear HP HR; have HP := n0; have HR := n1; have HRF := n2; have HGE := n3; clear n0 n1 n2 n3; clear hg_ hbox hb; have ys0 : w5.cell? ⟨bs, 0, none⟩ = some (.int .i64 0) := (blk_cell (HP.out.get 0 rfl) 0).trans rfl; have ys1 : w5.cell? ⟨bs, 1, none⟩ = some (.bool false) := (blk_cell (HP.out.get 0 rfl) 1).trans rfl; have ys2 : w5.cell? ⟨bs, 2, none⟩ = some (.int .i64 0) := (blk_cell (HP.out.get 0 rfl) 2).trans rfl; have ys3 : w5.cell? ⟨bs, 3, none⟩ = some (.string ⟨#[]⟩) := (blk_cell (HP.out.get 0 rfl) 3).trans rfl; have ys4 : w5.cell? ⟨bs, 4, none⟩ = some (.slice none 0 0) := (blk_cell (HP.out.get 0 rfl) 4).trans rfl; have ys5 : w5.cell? ⟨bs, 5, none⟩ = some (.slice none 0 0) := (blk_cell (HP.out.get 0 rfl) 5).trans rfl; have zs0 := blk_frozen (HP.out.get 0 rfl) 0; have zs1 := blk_frozen (HP.out.get 0 rfl) 1; have zs2 := blk_frozen (HP.out.get 0 rfl) 2; have zs3 := blk_frozen (HP.out.get 0 rfl) 3; have zs4 := blk_frozen (HP.out.get 0 rfl) 4; have zs5 := blk_frozen (HP.out.get 0 rfl) 5))
  have n0 := Aside0.mk (HP.out.six 0 rfl (.int .i64 s.f0) (.bool s.f1) (.int .i64 s.f2) (.string s.f3) (.slice E4 s.f4.length e4) (.slice E5 s.f5.length e5))
  have n1 := Aside0.mk ((HRF.out.six (g := bs) (fun k hk => by have := hk.2; have := HGE.out; omega) (.int .i64 s.f0) (.bool s.f1) (.int .i64 s.f2) (.string s.f3) (.slice E4 s.f4.length e4) (.slice E5 s.f5.length e5)).now)
  clear HP HR
  have HP := n0
  have HR := n1
  clear n0 n1
  clear HRF HGE ys0 zs0 ys1 zs1 ys2 zs2 ys3 zs3 ys4 zs4 ys5 zs5
  generalize ((((((w5.setCell ⟨bs, 0, none⟩ (.int .i64 s.f0)).setCell ⟨bs, 1, none⟩ (.bool s.f1)).setCell ⟨bs, 2, none⟩ (.int .i64 s.f2)).setCell ⟨bs, 3, none⟩ (.string s.f3)).setCell ⟨bs, 4, none⟩ (.slice E4 s.f4.length e4)).setCell ⟨bs, 5, none⟩ (.slice E5 s.f5.length e5)) = w6 at HP HR  ⊢
  clear yv0 yx0 yv1 yx1 yv2 yx2 yv3 yx3 yv4 yx4 yv5 yx5
  have yt0 : w6.cell? ⟨bs, 0, none⟩ = some (.int .i64 s.f0) := (blk_cell (HP.out.get 0 rfl) 0).trans rfl
  have yt1 : w6.cell? ⟨bs, 1, none⟩ = some (.bool s.f1) := (blk_cell (HP.out.get 0 rfl) 1).trans rfl
  have yt2 : w6.cell? ⟨bs, 2, none⟩ = some (.int .i64 s.f2) := (blk_cell (HP.out.get 0 rfl) 2).trans rfl
  have yt3 : w6.cell? ⟨bs, 3, none⟩ = some (.string s.f3) := (blk_cell (HP.out.get 0 rfl) 3).trans rfl
  have yt4 : w6.cell? ⟨bs, 4, none⟩ = some (.slice E4 s.f4.length e4) := (blk_cell (HP.out.get 0 rfl) 4).trans rfl
  have yt5 : w6.cell? ⟨bs, 5, none⟩ = some (.slice E5 s.f5.length e5) := (blk_cell (HP.out.get 0 rfl) 5).trans rfl
  go_upto_region 7 with (first | (go_at_call 10; refine (Get_calls k s E4 e4 E5 e5 route (y, 0) _ HR.out HG.out).mono ?_; rintro e w7 ⟨J4, j4, J5, j5, rfl, hr, hb⟩; have HY := Aside0.mk hr; have n0 := Aside0.mk (HP.out.below hb); have n1 := Aside0.mk (HR.out.below hb); clear HP HR; have HP := n0; have HR := n1; clear n0 n1; clear hb hr) | ((with_reducible refine gate_dst (N := 9) rfl ?_); refine box_event ?hg (N := 9) ?hd (cs := #[.int .i64 0, .bool false, .int .i64 0, .string ⟨#[]⟩, .slice none 0 0, .slice none 0 0]) (t := 25) ?hr ?_; (case hd => rfl); (case hg => rfl); (case hr => first | (go_simp; done) | (go_simp; rfl)); intro by_ hg_ w8 hbox hb; have n0 := Aside0.mk (HP.out.new hg_ hbox hb); have n1 := Aside0.mk (HR.out.F.bound.below hb); have n2 := Aside0.mk (HY.out.F.bound.below hb); have n3 := Aside0.mk ((show _ = by_ from hg_.symm)); clear HP HR; have HP := n0; have HR := n1; have HRF := n2; have HGE := n3; clear n0 n1 n2 n3; clear hg_ hbox hb; have ys0 : w8.cell? ⟨by_, 0, none⟩ = some (.int .i64 0) := (blk_cell (HP.out.get 0 rfl) 0).trans rfl; have ys1 : w8.cell? ⟨by_, 1, none⟩ = some (.bool false) := (blk_cell (HP.out.get 0 rfl) 1).trans rfl; have ys2 : w8.cell? ⟨by_, 2, none⟩ = some (.int .i64 0) := (blk_cell (HP.out.get 0 rfl) 2).trans rfl; have ys3 : w8.cell? ⟨by_, 3, none⟩ = some (.string ⟨#[]⟩) := (blk_cell (HP.out.get 0 rfl) 3).trans rfl; have ys4 : w8.cell? ⟨by_, 4, none⟩ = some (.slice none 0 0) := (blk_cell (HP.out.get 0 rfl) 4).trans rfl; have ys5 : w8.cell? ⟨by_, 5, none⟩ = some (.slice none 0 0) := (blk_cell (HP.out.get 0 rfl) 5).trans rfl; have zs0 := blk_frozen (HP.out.get 0 rfl) 0; have zs1 := blk_frozen (HP.out.get 0 rfl) 1; have zs2 := blk_frozen (HP.out.get 0 rfl) 2; have zs3 := blk_frozen (HP.out.get 0 rfl) 3; have zs4 := blk_frozen (HP.out.get 0 rfl) 4; have zs5 := blk_frozen (HP.out.get 0 rfl) 5))
  have n0 := Aside0.mk (HP.out.six 0 rfl (.int .i64 y.f0) (.bool y.f1) (.int .i64 y.f2) (.string y.f3) (.slice J4 y.f4.length j4) (.slice J5 y.f5.length j5))
  have n1 := Aside0.mk ((HRF.out.six (g := by_) (fun k hk => by have := hk.2; have := HGE.out; omega) (.int .i64 y.f0) (.bool y.f1) (.int .i64 y.f2) (.string y.f3) (.slice J4 y.f4.length j4) (.slice J5 y.f5.length j5)).now)
  have n2 := Aside0.mk ((HR.out.six (g := by_) (fun k hk => by have := hk.2; have := HGE.out; omega) (.int .i64 y.f0) (.bool y.f1) (.int .i64 y.f2) (.string y.f3) (.slice J4 y.f4.length j4) (.slice J5 y.f5.length j5)).now)
  clear HP HY HR
  have HP := n0
  have HY := n1
  have HR := n2
  clear n0 n1 n2
  clear HRF HGE ys0 zs0 ys1 zs1 ys2 zs2 ys3 zs3 ys4 zs4 ys5 zs5
  generalize ((((((w8.setCell ⟨by_, 0, none⟩ (.int .i64 y.f0)).setCell ⟨by_, 1, none⟩ (.bool y.f1)).setCell ⟨by_, 2, none⟩ (.int .i64 y.f2)).setCell ⟨by_, 3, none⟩ (.string y.f3)).setCell ⟨by_, 4, none⟩ (.slice J4 y.f4.length j4)).setCell ⟨by_, 5, none⟩ (.slice J5 y.f5.length j5)) = w9 at HP HY HR ⊢
  clear yt0 yt1 yt2 yt3 yt4 yt5
  have yy0 : w9.cell? ⟨by_, 0, none⟩ = some (.int .i64 y.f0) := (blk_cell (HP.out.get 0 rfl) 0).trans rfl
  have yy1 : w9.cell? ⟨by_, 1, none⟩ = some (.bool y.f1) := (blk_cell (HP.out.get 0 rfl) 1).trans rfl
  have yy2 : w9.cell? ⟨by_, 2, none⟩ = some (.int .i64 y.f2) := (blk_cell (HP.out.get 0 rfl) 2).trans rfl
  have yy3 : w9.cell? ⟨by_, 3, none⟩ = some (.string y.f3) := (blk_cell (HP.out.get 0 rfl) 3).trans rfl
  have yy4 : w9.cell? ⟨by_, 4, none⟩ = some (.slice J4 y.f4.length j4) := (blk_cell (HP.out.get 0 rfl) 4).trans rfl
  have yy5 : w9.cell? ⟨by_, 5, none⟩ = some (.slice J5 y.f5.length j5) := (blk_cell (HP.out.get 0 rfl) 5).trans rfl
  have yx0 : w9.cell? ⟨bx, 0, none⟩ = some (.int .i64 x.f0) := (blk_cell (HP.out.get 2 rfl) 0).trans rfl
  have yx1 : w9.cell? ⟨bx, 1, none⟩ = some (.bool x.f1) := (blk_cell (HP.out.get 2 rfl) 1).trans rfl
  have yx2 : w9.cell? ⟨bx, 2, none⟩ = some (.int .i64 x.f2) := (blk_cell (HP.out.get 2 rfl) 2).trans rfl
  have yx3 : w9.cell? ⟨bx, 3, none⟩ = some (.string x.f3) := (blk_cell (HP.out.get 2 rfl) 3).trans rfl
  have yx4 : w9.cell? ⟨bx, 4, none⟩ = some (.slice B4 x.f4.length d4) := (blk_cell (HP.out.get 2 rfl) 4).trans rfl
  have yx5 : w9.cell? ⟨bx, 5, none⟩ = some (.slice B5 x.f5.length d5) := (blk_cell (HP.out.get 2 rfl) 5).trans rfl
  go_upto_region 9 with ((go_at_call 9; refine (same_calls k x B4 d4 B5 d5 y J4 j4 J5 j5 true _ (HX.out.below HP.out.B) HY.out HSM.out).mono ?_; rintro e wa ⟨rfl, hb⟩; have n0 := Aside0.mk (HP.out.below hb); have n1 := Aside0.mk (HR.out.below hb); clear HP HR; have HP := n0; have HR := n1; clear n0 n1; clear hb HY; have ys0 : wa.cell? ⟨bs, 0, none⟩ = some (.int .i64 s.f0) := (blk_cell (HP.out.get 1 rfl) 0).trans rfl; have ys1 : wa.cell? ⟨bs, 1, none⟩ = some (.bool s.f1) := (blk_cell (HP.out.get 1 rfl) 1).trans rfl; have ys2 : wa.cell? ⟨bs, 2, none⟩ = some (.int .i64 s.f2) := (blk_cell (HP.out.get 1 rfl) 2).trans rfl; have ys3 : wa.cell? ⟨bs, 3, none⟩ = some (.string s.f3) := (blk_cell (HP.out.get 1 rfl) 3).trans rfl; have ys4 : wa.cell? ⟨bs, 4, none⟩ = some (.slice E4 s.f4.length e4) := (blk_cell (HP.out.get 1 rfl) 4).trans rfl; have ys5 : wa.cell? ⟨bs, 5, none⟩ = some (.slice E5 s.f5.length e5) := (blk_cell (HP.out.get 1 rfl) 5).trans rfl))
  clear yy0 yx0 yy1 yx1 yy2 yx2 yy3 yx3 yy4 yx4 yy5 yx5
  go_upto_region 12 with ((go_at_call 11; refine (Routes_calls k n s E4 e4 E5 e5 (all, 0) w.heap.size _ (HT.out.below HP.out.B) HR.out HA.out).mono ?_; rintro e wb ⟨Al, cl, rfl, hC, hlc, hb⟩; have HC := Aside0.mk hC; have n0 := Aside0.mk (HP.out.below hb); have n1 := Aside0.mk (HR.out.below hb); clear HP HR; have HP := n0; have HR := n1; clear n0 n1; clear hb hC hlc))
  clear ys0 ys1 ys2 ys3 ys4 ys5
  have HM := Aside0.mk HC.out.2.1
  go_wp2_with fail
  go_loopg [52] all.length (fun kq v52 w' => ∃ (ii : Int) (i : Nat), v52 = .int .i64 ii ∧ Aside0 (ii = (i : Int)) ∧ Aside0 (i + kq = all.length) ∧ Aside0 (Kd.C Kd.string w' Al all.length all) ∧ Aside0 (Rd w' s E4 e4 E5 e5) ∧ Aside0 (Bs w w' [(by_, #[.int .i64 y.f0, .bool y.f1, .int .i64 y.f2, .string y.f3, .slice J4 y.f4.length j4, .slice J5 y.f5.length j5], 25), (bs, #[.int .i64 s.f0, .bool s.f1, .int .i64 s.f2, .string s.f3, .slice E4 s.f4.length e4, .slice E5 s.f5.length e5], 25), (bx, #[.int .i64 x.f0, .bool x.f1, .int .i64 x.f2, .string x.f3, .slice B4 x.f4.length d4, .slice B5 x.f5.length d5], 25), (bv, #[.int .i64 v.f0, .bool v.f1, .int .i64 v.f2, .string v.f3, .slice A4 v.f4.length c4, .slice A5 v.f5.length c5], 25)]))
  case atStart => exact ⟨0, 0, rfl, ⟨rfl⟩, ⟨by omega⟩, HC, HR, HP⟩
  case round =>
    clear HP HC HR
    obtain ⟨ii, i, rfl, HII, HI, HC, HR, HP⟩ := hrel
    cases gk with
    | zero =>
      have e0 : decide (ii < (all.length : Int)) = false := decide_eq_false (by have := HII.out; have := HI.out; omega)
      go_wp2_with fail
      go_ret
      exact ⟨rfl, HP.out.B⟩
    | succ k1 =>
      have p0 : 0 ≤ ii := by have := HII.out; omega
      have p1 : ii < (all.length : Int) := by have := HII.out; have := HI.out; omega
      have q0 : decide (ii < (all.length : Int)) = true := decide_eq_true p1
      have q1 : decide (0 ≤ ii) = true := decide_eq_true p0
      obtain ⟨ad, e_, x0⟩ := Kd.at_string HC.out ii p0 p1
      cases e_
      obtain ⟨q, hq⟩ : ∃ q, q = rdOf ByteArray.empty all ii := ⟨_, rfl⟩
      rw [← hq] at x0
      obtain ⟨g, hg⟩ := HALL.out q (by rw [hq]; unfold rdOf; rw [List.getD_eq_getElem?_getD, List.getElem?_eq_getElem (by omega)]; exact List.getElem_mem _)
      have HG1 := Aside0.mk hg
      clear hg hq
      replace p0 := eq_true p0
      replace p1 := eq_true p1
      have ys0 : wr.cell? ⟨bs, 0, none⟩ = some (.int .i64 s.f0) := (blk_cell (HP.out.get 1 rfl) 0).trans rfl
      have ys1 : wr.cell? ⟨bs, 1, none⟩ = some (.bool s.f1) := (blk_cell (HP.out.get 1 rfl) 1).trans rfl
      have ys2 : wr.cell? ⟨bs, 2, none⟩ = some (.int .i64 s.f2) := (blk_cell (HP.out.get 1 rfl) 2).trans rfl
      have ys3 : wr.cell? ⟨bs, 3, none⟩ = some (.string s.f3) := (blk_cell (HP.out.get 1 rfl) 3).trans rfl
      have ys4 : wr.cell? ⟨bs, 4, none⟩ = some (.slice E4 s.f4.length e4) := (blk_cell (HP.out.get 1 rfl) 4).trans rfl
      have ys5 : wr.cell? ⟨bs, 5, none⟩ = some (.slice E5 s.f5.length e5) := (blk_cell (HP.out.get 1 rfl) 5).trans rfl
      go_upto_region 16 with (first | (go_at_call 10; refine (Get_calls k s E4 e4 E5 e5 q (g, 0) _ HR.out HG1.out).mono ?_; rintro e w7 ⟨G4, g4, G5, g5, rfl, hr, hb⟩; have HY := Aside0.mk hr; have n0 := Aside0.mk (HP.out.below hb); have n1 := Aside0.mk (HR.out.below hb); have n2 := Aside0.mk (Kd.C_below HC.out hb); clear HP HR HC; have HP := n0; have HR := n1; have HC := n2; clear n0 n1 n2; clear hb hr) | ((with_reducible refine gate_dst (N := 13) rfl ?_); refine box_event ?hg (N := 13) ?hd (cs := #[.int .i64 0, .bool false, .int .i64 0, .string ⟨#[]⟩, .slice none 0 0, .slice none 0 0]) (t := 25) ?hr ?_; (case hd => rfl); (case hg => rfl); (case hr => first | (go_simp; done) | (go_simp; rfl)); intro bg hg_ w8 hbox hb; have n0 := Aside0.mk (HP.out.new hg_ hbox hb); have n1 := Aside0.mk (HR.out.F.bound.below hb); have n2 := Aside0.mk (Kd.F_below (Kd.F_bound (Kd.C_F Kd.heap_string HC.out)) hb); have n3 := Aside0.mk ((show _ = bg from hg_.symm)); clear HP HR HC; have HP := n0; have HR := n1; have HC := n2; have HGE := n3; clear n0 n1 n2 n3; clear hg_ hbox hb; have yg0 : w8.cell? ⟨bg, 0, none⟩ = some (.int .i64 0) := (blk_cell (HP.out.get 0 rfl) 0).trans rfl; have yg1 : w8.cell? ⟨bg, 1, none⟩ = some (.bool false) := (blk_cell (HP.out.get 0 rfl) 1).trans rfl; have yg2 : w8.cell? ⟨bg, 2, none⟩ = some (.int .i64 0) := (blk_cell (HP.out.get 0 rfl) 2).trans rfl; have yg3 : w8.cell? ⟨bg, 3, none⟩ = some (.string ⟨#[]⟩) := (blk_cell (HP.out.get 0 rfl) 3).trans rfl; have yg4 : w8.cell? ⟨bg, 4, none⟩ = some (.slice none 0 0) := (blk_cell (HP.out.get 0 rfl) 4).trans rfl; have yg5 : w8.cell? ⟨bg, 5, none⟩ = some (.slice none 0 0) := (blk_cell (HP.out.get 0 rfl) 5).trans rfl; have zg0 := blk_frozen (HP.out.get 0 rfl) 0; have zg1 := blk_frozen (HP.out.get 0 rfl) 1; have zg2 := blk_frozen (HP.out.get 0 rfl) 2; have zg3 := blk_frozen (HP.out.get 0 rfl) 3; have zg4 := blk_frozen (HP.out.get 0 rfl) 4; have zg5 := blk_frozen (HP.out.get 0 rfl) 5))
      have n0 := Aside0.mk (HP.out.six 0 rfl (.int .i64 g.f0) (.bool g.f1) (.int .i64 g.f2) (.string g.f3) (.slice G4 g.f4.length g4) (.slice G5 g.f5.length g5))
      have n1 := Aside0.mk ((HR.out.six (g := bg) (fun k hk => by have := hk.2; have := HGE.out; omega) (.int .i64 g.f0) (.bool g.f1) (.int .i64 g.f2) (.string g.f3) (.slice G4 g.f4.length g4) (.slice G5 g.f5.length g5)).now)
      have n2 := Aside0.mk (Kd.F_now (Kd.F_step HC.out (fun k hk hlt => six_same (g := bg) (by have := hk.2; have := HGE.out; omega) hlt (.int .i64 g.f0) (.bool g.f1) (.int .i64 g.f2) (.string g.f3) (.slice G4 g.f4.length g4) (.slice G5 g.f5.length g5))))
      clear HP HR HC
      have HP := n0
      have HR := n1
      have HC := n2
      clear n0 n1 n2
      clear HGE HY x0 yg0 zg0 ys0 yg1 zg1 ys1 yg2 zg2 ys2 yg3 zg3 ys3 yg4 zg4 ys4 yg5 zg5 ys5
      generalize ((((((w8.setCell ⟨bg, 0, none⟩ (.int .i64 g.f0)).setCell ⟨bg, 1, none⟩ (.bool g.f1)).setCell ⟨bg, 2, none⟩ (.int .i64 g.f2)).setCell ⟨bg, 3, none⟩ (.string g.f3)).setCell ⟨bg, 4, none⟩ (.slice G4 g.f4.length g4)).setCell ⟨bg, 5, none⟩ (.slice G5 g.f5.length g5)) = w9 at HP HR HC ⊢
      go_wp2_with fail
      go_roundg k1
      case measure => omega
      case rel => exact ⟨_, i + 1, rfl, ⟨by have h1_ := HM.out; have h2_ := HII.out; have h3_ := HI.out; unfold wrap64; omega⟩, ⟨by have := HI.out; omega⟩, HC, HR, ⟨HP.out.tail⟩⟩
end Go.Proofs.YtlofkjdcapbohaaGreatDoor.PConfKeeps
