/- For the laws of conf: routes and Routes, walked. No condition. -/
import Derived.Test.YtlofkjdcapbohaaGreatDoorCfP
namespace Go.Proofs.YtlofkjdcapbohaaGreatDoor.PConfKeeps
open Go.RowKit Go.Proofs.YtlofkjdcapbohaaGreatDoorW.PrintWords Go.Proofs.YtlofkjdcapbohaaGreatDoorW.PrintLast Go.Proofs.YtlofkjdcapbohaaGreatDoorW.PrintMore
set_option linter.unusedVariables false
set_option linter.unusedSimpArgs false
theorem info9r : (Tryz.prog.info? 9).map (fun i => (i.zero, i.size, i.bytes)) = some (some (.string ⟨#[]⟩), 1, 16) := by kernel_rfl
theorem grown_trans {w W w1 : World} {r r' : Option Nat} (h : w.grownBy W r) (k : W.grownBy w1 r') (hr : ∀ i, i < w.heap.size → some i ≠ r → some i ≠ r') : w.grownBy w1 r :=
  ⟨k.os.trans h.os, k.tape.trans h.tape, k.output.trans h.output, Nat.le_trans h.size k.size, fun i hi hne => (k.block i (Nat.lt_of_lt_of_le hi h.size) (hr i hi hne)).trans (h.block i hi hne)⟩
theorem rowk {W : World} {base g : Nat} {cv : Value} {xs : List ByteArray} (h : Kd.R Kd.string 9 W base (fun _ => True) cv xs) (hn : some g ≠ cv.ownBlock) : Kd.R Kd.string 9 W base (fun k => k ≠ g) cv xs :=
  ⟨fun k hk he => hn (by rw [← he]; exact hk.symm), h.2⟩
structure RtAt (w : World) (base : Nat) (v0 : Value) (vc : Array Value) (cv : Value) (xs : List ByteArray) (W : World) : Prop where
  V : W.heap[w.heap.size]? = some (.cells vc 25 (0, 0))
  O : Kd.R Kd.string 9 W base (fun _ => True) cv xs
  G : w.grownBy W v0.ownBlock
  T : cv.ownBlock = v0.ownBlock ∨ ∃ b, cv.ownBlock = some b ∧ w.heap.size ≤ b
section
variable {w W w1 : World} {base : Nat} {v0 cv v1 : Value} {vc : Array Value} {xs ys : List ByteArray}
theorem RtAt.far (h : RtAt w base v0 vc cv xs W) : ∀ i, i < w.heap.size → some i ≠ v0.ownBlock → some i ≠ cv.ownBlock := fun i hi hne he => by
  rcases h.T with t | ⟨b, t, hb⟩
  · exact hne (he.trans t)
  · rw [t] at he; injection he with he; omega
theorem RtAt.below (h : RtAt w base v0 vc cv xs W) (hb : Below W.heap.size W w1) : RtAt w base v0 vc cv xs w1 :=
  ⟨blk_below h.V hb, Kd.R_below h.O hb, grown_trans h.G (grown_of_below hb v0.ownBlock) (fun _ _ hne => hne), h.T⟩
theorem RtAt.row (h : RtAt w base v0 vc cv xs W) (ho : Kd.R Kd.string 9 w1 base (fun _ => True) v1 ys) (hg : W.grownBy w1 cv.ownBlock) (hat : v1.ownBlock = cv.ownBlock ∨ ∃ b, v1.ownBlock = some b ∧ W.heap.size ≤ b) : RtAt w base v0 vc v1 ys w1 := by
  refine ⟨blk_grown h.V hg (Kd.R_ne h.O h.V (by decide)), ho, grown_trans h.G hg h.far, ?_⟩
  rcases hat with t | ⟨b, t, hb⟩
  · rcases h.T with t' | ⟨b', t', hb'⟩
    · exact .inl (t.trans t')
    · exact .inr ⟨b', t.trans t', hb'⟩
  · exact .inr ⟨b, t, Nat.le_trans h.G.size hb⟩
theorem RtAt.read {v : S25} {A4 : Option Addr} {c4 : Nat} {A5 : Option Addr} {c5 : Nat} (h : RtAt w base v0 vc cv xs W) (hv : RdF w (fun k => some k ≠ v0.ownBlock) v A4 c4 A5 c5) : RdF W (fun k => some k ≠ cv.ownBlock) v A4 c4 A5 c5 :=
  (hv.bound.step (fun k hk hlt => h.G.block k hlt hk.1)).mono (fun k hk => h.far k hk.2 hk.1)
theorem six_same {g k : Nat} (hk : k ≠ g) (hlt : k < W.heap.size) (u0 u1 u2 u3 u4 u5 : Value) : ((((((W.setCell ⟨g, 0, none⟩ u0).setCell ⟨g, 1, none⟩ u1).setCell ⟨g, 2, none⟩ u2).setCell ⟨g, 3, none⟩ u3).setCell ⟨g, 4, none⟩ u4).setCell ⟨g, 5, none⟩ u5).heap[k]? = W.heap[k]? := by
  obtain ⟨o, ho⟩ : ∃ o, W.heap[k]? = some o := ⟨_, Array.getElem?_eq_getElem hlt⟩
  rw [ho]
  exact put6_far ho hk _ _ _ _ _ _
theorem RtAt.six (h : RtAt w base v0 vc cv xs W) {g : Nat} (h1 : w.heap.size < g) (hn : some g ≠ cv.ownBlock) (u0 u1 u2 u3 u4 u5 : Value) : RtAt w base v0 vc cv xs ((((((W.setCell ⟨g, 0, none⟩ u0).setCell ⟨g, 1, none⟩ u1).setCell ⟨g, 2, none⟩ u2).setCell ⟨g, 3, none⟩ u3).setCell ⟨g, 4, none⟩ u4).setCell ⟨g, 5, none⟩ u5) := by
  have hl := Nat.le_of_lt h1
  have hb : Below w.heap.size W ((((((W.setCell ⟨g, 0, none⟩ u0).setCell ⟨g, 1, none⟩ u1).setCell ⟨g, 2, none⟩ u2).setCell ⟨g, 3, none⟩ u3).setCell ⟨g, 4, none⟩ u4).setCell ⟨g, 5, none⟩ u5) := ((((((Below.refl _ W).setCell hl _).setCell hl _).setCell hl _).setCell hl _).setCell hl _).setCell hl _
  have hr := rowk h.O hn
  refine ⟨put6_far h.V (by omega) _ _ _ _ _ _, Kd.R_mono (Kd.R_far (Kd.R_far (Kd.R_far (Kd.R_far (Kd.R_far (Kd.R_far hr (fun _ hk => hk) _) (fun _ hk => hk) _) (fun _ hk => hk) _) (fun _ hk => hk) _) (fun _ hk => hk) _) (fun _ hk => hk) _) (fun _ _ => trivial), ⟨hb.os.trans h.G.os, hb.tape.trans h.G.tape, hb.output.trans h.G.output, Nat.le_trans h.G.size hb.size, fun i hi hne => (hb.block i hi).trans (h.G.block i hi hne)⟩, h.T⟩
theorem RtAt.pt {outs : List ByteArray} (h : RtAt w base v0 vc cv xs W) (hp : PT base w) (ho : Kd.R Kd.string 9 w base (fun _ => True) v0 outs) : PT base W :=
  hp.move (fun k hk => h.G.block k (Nat.lt_of_lt_of_le hk hp.le) (fun he => by have := Kd.R_base ho k he.symm; omega)) h.G.size
theorem RtAt.low (h : RtAt w base v0 vc cv xs W) (hb : base ≤ w.heap.size) : base ≤ W.heap.size := Nat.le_trans hb h.G.size
end
section
variable {w : World} {ok : Nat → Prop} {v : S25} {A4 : Option Addr} {c4 : Nat} {A5 : Option Addr} {c5 : Nat}
theorem RdF.i (h : RdF w ok v A4 c4 A5 c5) : Kd.C k25 w A4 v.f4.length v.f4 := h.now.1
theorem RdF.li (h : RdF w ok v A4 c4 A5 c5) : v.f4.length ≤ c4 := h.2.1
theorem RdF.k (h : RdF w ok v A4 c4 A5 c5) : Kd.C Kd.string w A5 v.f5.length v.f5 := h.now.2.2.1
end
/-- the rounds of routes: m items are left, the next one is i -/
def crl (f : S25 → ByteArray → Option (List ByteArray)) (v : S25) (route : ByteArray) : Nat → Nat → Option (List ByteArray)
  | 0, _ => some []
  | m + 1, i => (cpart v (i : Int)).bind fun p => (conf_joined.f route p).bind fun r => (f (rd_T25 v.f4 (i : Int)) r).bind fun a => (crl f v route m (i + 1)).bind fun b => some (a ++ b)
/-- what routes appends -/
def croutes : Nat → S25 → ByteArray → Option (List ByteArray)
  | 0, _, _ => none
  | n + 1, v, route => if v.f4.length = 0 then some [route] else crl (croutes n) v route v.f4.length 0
set_option maxHeartbeats 4000000 in
set_option maxRecDepth 100000 in
theorem routes_calls : ∀ (n : Nat) (v : S25) (A4 : Option Addr) (c4 : Nat) (A5 : Option Addr) (c5 : Nat) (route : ByteArray) (outs rs : List ByteArray) (v0 : Value) (base : Nat) (w : World) (hv : RdF w (fun k => some k ≠ v0.ownBlock) v A4 c4 A5 c5) (ho : Kd.R Kd.string 9 w base (fun _ => True) v0 outs) (hp : PT base w) (hn : outs.length + rs.length ≤ 1000000) (h : croutes n v route = some rs),
    Calls Tryz.prog 24 #[v0, .agg #[.int .i64 v.f0, .bool v.f1, .int .i64 v.f2, .string v.f3, .slice A4 v.f4.length c4, .slice A5 v.f5.length c5], .string route] w fun e w' => ∃ v1, e = .returned v1 ∧ Kd.R Kd.string 9 w' base (fun _ => True) v1 (outs ++ rs) ∧ w.grownBy w' v0.ownBlock ∧ (v1.ownBlock = v0.ownBlock ∨ ∃ b, v1.ownBlock = some b ∧ w.heap.size ≤ b) := by
  intro n
  induction n with
  | zero => intro v A4 c4 A5 c5 route outs rs v0 base w hv ho hp hn h; cases h
  | succ n ih =>
    intro v A4 c4 A5 c5 route outs rs v0 base w hv ho hp hn h
    have hbs := hp.le
    have HPT0 := Aside0.mk (fun (xs : List ByteArray) (cv : Value) (W : World) (h : RtAt w base v0 #[.int .i64 v.f0, .bool v.f1, .int .i64 v.f2, .string v.f3, .slice A4 v.f4.length c4, .slice A5 v.f5.length c5] cv xs W) => h.pt hp ho)
    have hu25 := Tryz.underlying25
    have HV := Aside0.mk hv
    have HO := Aside0.mk ho
    have HN := Aside0.mk hn
    have IH := Aside0.mk ih
    rw [croutes] at h
    have H := Aside0.mk h
    have HM := Aside0.mk (Kd.F_max hv.1)
    clear hv ho hn ih h hp
    go_enter Tryz.func24, Tryz.ntmps24
    go_upto_region 1 with (fail)
    have HB := Aside0.mk (show Below w.heap.size w (w.alloc (.cells #[.int .i64 v.f0, .bool v.f1, .int .i64 v.f2, .string v.f3, .slice A4 v.f4.length c4, .slice A5 v.f5.length c5] 25)) from below_alloc (Below.refl _ _) _)
    have BKbv : (w.alloc (.cells #[.int .i64 v.f0, .bool v.f1, .int .i64 v.f2, .string v.f3, .slice A4 v.f4.length c4, .slice A5 v.f5.length c5] 25)).heap[w.heap.size]? = some (.cells #[.int .i64 v.f0, .bool v.f1, .int .i64 v.f2, .string v.f3, .slice A4 v.f4.length c4, .slice A5 v.f5.length c5] 25 (0, 0)) := by
      have h_ := blk_new w (.cells #[.int .i64 v.f0, .bool v.f1, .int .i64 v.f2, .string v.f3, .slice A4 v.f4.length c4, .slice A5 v.f5.length c5] 25)
      simpa using h_
    replace BKbv := Aside0.mk BKbv
    have Gbv : Aside0 (w.heap.size ≤ w.heap.size) := ⟨by omega⟩
    generalize (w.alloc (.cells #[.int .i64 v.f0, .bool v.f1, .int .i64 v.f2, .string v.f3, .slice A4 v.f4.length c4, .slice A5 v.f5.length c5] 25)) = W at HB BKbv ⊢
    have HP := Aside0.mk (show RtAt w base v0 #[.int .i64 v.f0, .bool v.f1, .int .i64 v.f2, .string v.f3, .slice A4 v.f4.length c4, .slice A5 v.f5.length c5] v0 outs W from ⟨BKbv.out, Kd.R_below HO.out HB.out, grown_of_below HB.out _, .inl rfl⟩)
    clear BKbv HB Gbv HO
    have yv4 : W.cell? ⟨w.heap.size, 4, none⟩ = some (.slice A4 v.f4.length c4) := (blk_cell HP.out.V 4).trans rfl
    by_cases c1 : v.f4.length = 0
    case pos =>
      have H1 := H.out
      rw [if_pos c1] at H1
      injection H1 with H1
      subst H1
      have e1 : ((v.f4.length : Int) == 0) = true := beq_iff_eq.2 (by omega)
      have e2 : ((v.f4.length : Int) != 0) = false := bne_eq_false_iff_eq.2 (by omega)
      obtain ⟨A0, k0, e0, _, _⟩ := Kd.R_reads HP.out.O
      subst e0
      go_wp2_with (((with_reducible refine gate_builtin (b := .append) (xs := #[.tmp 13, .tmp 15]) rfl ?_); (try (refine gate_guard (by rfl) ?_; dsimp only)); at_builtin; refine Kd.R_append Kd.string (w0 := W) base rfl (.tmp 13) (.tmp 15) 23 9 (.string ⟨#[]⟩) 16 rfl Tryz.underlying23 info9r rfl (by decide) (by omega) (.slice A0 outs.length k0) outs route [.string route] (fun _ => True) (fun _ => False) rfl (by rfl) (show Kd.M Kd.string _ _ _ route [.string route] from rfl) (fun _ h => h.elim) (fun _ _ => trivial) HP.out.O (Below.refl _ _) (HP.out.low hbs) (by have := HN.out; simp at this; omega) ?_; intro v1 w5 ho hb hg hat; have HP1 := Aside0.mk (HP.out.row ho hg hat); clear HP ho hb hg hat))
      go_ret
      exact ⟨v1, rfl, HP1.out.O, HP1.out.G, HP1.out.T⟩
    have H1 := H.out
    rw [if_neg c1] at H1
    have HA := Aside0.mk H1
    clear H1 H
    have e1 : ((v.f4.length : Int) == 0) = false := beq_eq_false_iff_ne.2 (by omega)
    have e2 : ((v.f4.length : Int) != 0) = true := bne_iff_ne.2 (by omega)
    clear c1
    go_wp2_with fail
    go_loopg [0, 20] v.f4.length (fun kq v0s v20 w' => ∃ (ii : Int) (i : Nat) (xs b : List ByteArray), v20 = .int .i64 ii ∧ Aside0 (ii = (i : Int)) ∧ Aside0 (i + kq = v.f4.length) ∧ Aside0 (crl (croutes n) v route kq i = some b) ∧ Aside0 (xs ++ b = outs ++ rs) ∧ Aside0 (RtAt w base v0 #[.int .i64 v.f0, .bool v.f1, .int .i64 v.f2, .string v.f3, .slice A4 v.f4.length c4, .slice A5 v.f5.length c5] v0s xs w'))
    case atStart => exact ⟨0, 0, outs, rs, rfl, ⟨rfl⟩, ⟨by omega⟩, HA, ⟨rfl⟩, HP⟩
    case round =>
      clear HP HA
      obtain ⟨ii, i, xs, b, rfl, HII, HI, HA, HE, HP⟩ := hrel
      obtain ⟨A0, k0, e0, _, _⟩ := Kd.R_reads HP.out.O
      subst e0
      cases gk with
      | zero =>
        have e3 : decide (ii < (v.f4.length : Int)) = false := decide_eq_false (by have := HI.out; have := HII.out; omega)
        have H1 := HA.out
        rw [crl] at H1
        injection H1 with H1
        subst H1
        have HE1 := HE.out
        rw [List.append_nil] at HE1
        subst HE1
        go_wp2_with fail
        go_ret
        exact ⟨_, rfl, HP.out.O, HP.out.G, HP.out.T⟩
      | succ k1 =>
        have H1 := HA.out
        clear HA
        rw [crl] at H1
        obtain ⟨p, hp, H1⟩ := Option.bind_eq_some_iff.1 H1
        obtain ⟨r, hr, H1⟩ := Option.bind_eq_some_iff.1 H1
        obtain ⟨a, ha, H1⟩ := Option.bind_eq_some_iff.1 H1
        obtain ⟨b', hb', H1⟩ := Option.bind_eq_some_iff.1 H1
        injection H1 with H1
        subst H1
        have HPT := Aside0.mk hp
        have HJ := Aside0.mk hr
        have HRC := Aside0.mk ha
        have HA := Aside0.mk hb'
        clear hp hr ha hb'
        have p0 : 0 ≤ ii := by have := HII.out; omega
        have p1 : ii < (v.f4.length : Int) := by have := HII.out; have := HI.out; omega
        have e3 : decide (ii < (v.f4.length : Int)) = true := decide_eq_true p1
        have e4 : decide (0 ≤ ii) = true := decide_eq_true p0
        rw [← HII.out] at HPT HRC
        have HW := Aside0.mk (HP.out.read HV.out)
        obtain ⟨ad, B4, d4, B5, d5, e_, x0, x1, x2, x3, x4, x5, hrd⟩ := at_F25 HW.out.1 ii p0 p1
        cases e_
        have RD := Aside0.mk hrd
        clear hrd HW
        obtain ⟨x, hx⟩ : ∃ x, x = rd_T25 v.f4 ii := ⟨_, rfl⟩
        rw [← hx] at x0 x1 x2 x3 x4 x5 RD HRC
        clear hx
        replace p0 := eq_true p0
        replace p1 := eq_true p1
        have HP0 := HP
        go_upto_region 6 with (((with_reducible refine gate_dst (N := 8) rfl ?_); refine box_event ?hg (N := 8) ?hd (cs := #[.int .i64 0, .bool false, .int .i64 0, .string ⟨#[]⟩, .slice none 0 0, .slice none 0 0]) (t := 25) ?hr ?_; (case hd => rfl); (case hg => rfl); (case hr => first | (go_simp; done) | (go_simp; rfl)); intro b8 hb8 W3 hbox hb; have BK8 := Aside0.mk hbox; have HB8 := Aside0.mk hb8; have n1 := Aside0.mk (HP.out.below hb); have n2 := Aside0.mk (RD.out.bound.below hb); clear HP RD; have HP := n1; have RD := n2; clear n1 n2; have LV8 := Aside0.mk (show w.heap.size < b8 by rw [hb8]; exact blk_lt HP0.out.V); have yo_0 : W3.cell? ⟨b8, 0, none⟩ = some (.int .i64 0) := (blk_cell BK8.out 0).trans rfl; have yo_1 : W3.cell? ⟨b8, 1, none⟩ = some (.bool false) := (blk_cell BK8.out 1).trans rfl; have yo_2 : W3.cell? ⟨b8, 2, none⟩ = some (.int .i64 0) := (blk_cell BK8.out 2).trans rfl; have yo_3 : W3.cell? ⟨b8, 3, none⟩ = some (.string ⟨#[]⟩) := (blk_cell BK8.out 3).trans rfl; have yo_4 : W3.cell? ⟨b8, 4, none⟩ = some (.slice none 0 0) := (blk_cell BK8.out 4).trans rfl; have yo_5 : W3.cell? ⟨b8, 5, none⟩ = some (.slice none 0 0) := (blk_cell BK8.out 5).trans rfl; have zo_0 := blk_frozen BK8.out 0; have zo_1 := blk_frozen BK8.out 1; have zo_2 := blk_frozen BK8.out 2; have zo_3 := blk_frozen BK8.out 3; have zo_4 := blk_frozen BK8.out 4; have zo_5 := blk_frozen BK8.out 5; clear hb8 hbox hb))
        have n0 := Aside0.mk (HP.out.six LV8.out (Kd.R_ne HP.out.O BK8.out (by decide)) (.int .i64 x.f0) (.bool x.f1) (.int .i64 x.f2) (.string x.f3) (.slice B4 x.f4.length d4) (.slice B5 x.f5.length d5))
        have n1 := Aside0.mk (put6 BK8.out (.int .i64 x.f0) (.bool x.f1) (.int .i64 x.f2) (.string x.f3) (.slice B4 x.f4.length d4) (.slice B5 x.f5.length d5))
        have n2 := Aside0.mk (RD.out.step (fun k hk hlt => six_same (g := b8) (by have := hk.2; have := HB8.out; omega) hlt (.int .i64 x.f0) (.bool x.f1) (.int .i64 x.f2) (.string x.f3) (.slice B4 x.f4.length d4) (.slice B5 x.f5.length d5)))
        clear HP BK8 RD
        have HP := n0
        have BK8 := n1
        have RD := n2
        clear n0 n1 n2
        clear yo_0 zo_0 yo_1 zo_1 yo_2 zo_2 yo_3 zo_3 yo_4 zo_4 yo_5 zo_5 x0 x1 x2 x3 x4 x5 yv4
        generalize ((((((W3.setCell ⟨b8, 0, none⟩ (.int .i64 x.f0)).setCell ⟨b8, 1, none⟩ (.bool x.f1)).setCell ⟨b8, 2, none⟩ (.int .i64 x.f2)).setCell ⟨b8, 3, none⟩ (.string x.f3)).setCell ⟨b8, 4, none⟩ (.slice B4 x.f4.length d4)).setCell ⟨b8, 5, none⟩ (.slice B5 x.f5.length d5)) = W4 at HP BK8 RD ⊢
        have n0 := Aside0.mk (HP.out.below (below_drew (Below.refl _ W4)))
        have n1 := Aside0.mk (RD.out.below (below_drew (Below.refl _ W4)))
        have n2 := Aside0.mk (show W4.drew.heap[b8]? = _ from BK8.out)
        clear HP RD BK8
        have HP := n0
        have RD := n1
        have BK8 := n2
        clear n0 n1 n2
        refine start_ (n := 9) (S := fun w' => w'.cell? ⟨b8, 0, none⟩ = some (.int .i64 x.f0) ∧ w'.cell? ⟨b8, 1, none⟩ = some (.bool x.f1) ∧ w'.cell? ⟨b8, 2, none⟩ = some (.int .i64 x.f2) ∧ w'.cell? ⟨b8, 3, none⟩ = some (.string x.f3) ∧ w'.cell? ⟨b8, 4, none⟩ = some (.slice B4 x.f4.length d4) ∧ w'.cell? ⟨b8, 5, none⟩ = some (.slice B5 x.f5.length d5) ∧ w'.cell? ⟨w.heap.size, 0, none⟩ = some (.int .i64 v.f0) ∧ w'.cell? ⟨w.heap.size, 1, none⟩ = some (.bool v.f1) ∧ w'.cell? ⟨w.heap.size, 2, none⟩ = some (.int .i64 v.f2) ∧ w'.cell? ⟨w.heap.size, 3, none⟩ = some (.string v.f3) ∧ w'.cell? ⟨w.heap.size, 4, none⟩ = some (.slice (some ad) v.f4.length c4) ∧ w'.cell? ⟨w.heap.size, 5, none⟩ = some (.slice A5 v.f5.length c5)) (ds := [7]) #[false, false, false, false, false, false, false, false, false] (by kernel_rfl) rfl rfl ⟨(blk_cell BK8.out 0).trans rfl, (blk_cell BK8.out 1).trans rfl, (blk_cell BK8.out 2).trans rfl, (blk_cell BK8.out 3).trans rfl, (blk_cell BK8.out 4).trans rfl, (blk_cell BK8.out 5).trans rfl, (blk_cell HP.out.V 0).trans rfl, (blk_cell HP.out.V 1).trans rfl, (blk_cell HP.out.V 2).trans rfl, (blk_cell HP.out.V 3).trans rfl, (blk_cell HP.out.V 4).trans rfl, (blk_cell HP.out.V 5).trans rfl⟩ (fun hHeld => ?_)
        generalize W4.drew = W5 at HP RD BK8 hHeld ⊢
        refine pure_ (i := 0) (N := some 25) (v := ?_) (a' := ?_) #[true, false, false, false, false, false, false, false, false] rfl rfl (by kernel_rfl) (fun _ _ _ h => h) (Or.inl ⟨by rfl, ?_⟩) ?_ ?_
        rotate_left
        · intro w'
          go_simp
          with_reducible rfl
        rotate_left
        · simp only [Act.put, List.setIfInBounds_toArray, List.set_cons_zero, List.set_cons_succ, i64_w, i32_w]
          rfl
        refine pure_ (i := 2) (N := some 27) (v := ?_) (a' := ?_) #[true, false, true, false, false, false, false, false, false] rfl rfl (by kernel_rfl) (fun _ _ _ h => h) (Or.inl ⟨by rfl, ?_⟩) ?_ ?_
        rotate_left
        · intro w'
          go_simp
          with_reducible rfl
        rotate_left
        · simp only [Act.put, List.setIfInBounds_toArray, List.set_cons_zero, List.set_cons_succ, i64_w, i32_w]
          rfl
        refine pure_ (i := 4) (N := some 29) (v := ?_) (a' := ?_) #[true, false, true, false, true, false, false, false, false] rfl rfl (by kernel_rfl) (fun _ _ _ h => h) (Or.inl ⟨by rfl, ?_⟩) ?_ ?_
        rotate_left
        · intro w'
          go_simp
          with_reducible rfl
        rotate_left
        · simp only [Act.put, List.setIfInBounds_toArray, List.set_cons_zero, List.set_cons_succ, i64_w, i32_w]
          rfl
        refine take_ (i := 1) (N := some 26) (v := ?_) (a' := ?_) #[true, true, true, false, true, false, false, false, false] rfl rfl (by kernel_rfl) (fun _ _ _ h => h) (Or.inl ⟨by rfl, ?_⟩) hHeld ?_ ?_
        rotate_left
        · rintro w' ⟨s0, s1, s2, s3, s4, s5, s6, s7, s8, s9, s10, s11⟩
          go_simp
          with_reducible rfl
        rotate_left
        · simp only [Act.put, List.setIfInBounds_toArray, List.set_cons_zero, List.set_cons_succ, i64_w, i32_w]
          rfl
        refine take_ (i := 3) (N := some 28) (v := ?_) (a' := ?_) #[true, true, true, true, true, false, false, false, false] rfl rfl (by kernel_rfl) (fun _ _ _ h => h) (Or.inl ⟨by rfl, ?_⟩) hHeld ?_ ?_
        rotate_left
        · rintro w' ⟨s0, s1, s2, s3, s4, s5, s6, s7, s8, s9, s10, s11⟩
          go_simp
          with_reducible rfl
        rotate_left
        · simp only [Act.put, List.setIfInBounds_toArray, List.set_cons_zero, List.set_cons_succ, i64_w, i32_w]
          rfl
        refine one_ (i := 5) (N := some 30) #[true, true, true, true, true, true, false, false, false] rfl rfl (by kernel_rfl) (by decide) (fun K hK => ?_)
        refine goes_ Tryz.func54 (by kernel_rfl) rfl #[.agg #[.int .i64 v.f0, .bool v.f1, .int .i64 v.f2, .string v.f3, .slice (some ad) v.f4.length c4, .slice A5 v.f5.length c5], .int .i64 ii] (by rfl) rfl rfl (by simp only [List.map_toArray, List.map_cons, List.map_nil]; rfl) ?_
        with_reducible refine (part_calls v (some ad) c4 A5 c5 ii p base _ (HPT0.out _ _ _ HP.out) (HP.out.read HV.out).now HPT.out).mono ?_
        rintro e w6 ⟨rfl, hb⟩
        refine ⟨_, rfl, ?_⟩
        have n0 := Aside0.mk (HP.out.below hb)
        have n1 := Aside0.mk (blk_below BK8.out hb)
        have n2 := Aside0.mk (RD.out.below hb)
        clear HP BK8 RD
        have HP := n0
        have BK8 := n1
        have RD := n2
        clear n0 n1 n2
        clear hb
        refine hK.out _ _ ⟨(blk_cell BK8.out 0).trans rfl, (blk_cell BK8.out 1).trans rfl, (blk_cell BK8.out 2).trans rfl, (blk_cell BK8.out 3).trans rfl, (blk_cell BK8.out 4).trans rfl, (blk_cell BK8.out 5).trans rfl, (blk_cell HP.out.V 0).trans rfl, (blk_cell HP.out.V 1).trans rfl, (blk_cell HP.out.V 2).trans rfl, (blk_cell HP.out.V 3).trans rfl, (blk_cell HP.out.V 4).trans rfl, (blk_cell HP.out.V 5).trans rfl⟩ (fun hHeld => ?_)
        clear hK K
        refine norm_ (a' := ?_) ?_ ?_
        rotate_left
        · show Act.put _ (some 30) _ = _
          simp only [Act.put, List.setIfInBounds_toArray, List.set_cons_zero, List.set_cons_succ, i64_w, i32_w]
          rfl
        refine one_ (i := 6) (N := some 31) #[true, true, true, true, true, true, true, false, false] rfl rfl (by kernel_rfl) (by decide) (fun K hK => ?_)
        refine goes_ Tryz.func53 (by kernel_rfl) rfl #[.string route, .string p] (by rfl) rfl rfl (by simp only [List.map_toArray, List.map_cons, List.map_nil]; rfl) ?_
        with_reducible refine (conf_joined.calls route p r _ HJ.out).mono ?_
        rintro e w7 ⟨rfl, hd⟩
        refine ⟨_, rfl, ?_⟩
        have hb := hd.below
        have n0 := Aside0.mk (HP.out.below hb)
        have n1 := Aside0.mk (blk_below BK8.out hb)
        have n2 := Aside0.mk (RD.out.below hb)
        clear HP BK8 RD
        have HP := n0
        have BK8 := n1
        have RD := n2
        clear n0 n1 n2
        clear hb hd
        refine hK.out _ _ ⟨(blk_cell BK8.out 0).trans rfl, (blk_cell BK8.out 1).trans rfl, (blk_cell BK8.out 2).trans rfl, (blk_cell BK8.out 3).trans rfl, (blk_cell BK8.out 4).trans rfl, (blk_cell BK8.out 5).trans rfl, (blk_cell HP.out.V 0).trans rfl, (blk_cell HP.out.V 1).trans rfl, (blk_cell HP.out.V 2).trans rfl, (blk_cell HP.out.V 3).trans rfl, (blk_cell HP.out.V 4).trans rfl, (blk_cell HP.out.V 5).trans rfl⟩ (fun hHeld => ?_)
        clear hK K
        refine norm_ (a' := ?_) ?_ ?_
        rotate_left
        · show Act.put _ (some 31) _ = _
          simp only [Act.put, List.setIfInBounds_toArray, List.set_cons_zero, List.set_cons_succ, i64_w, i32_w]
          rfl
        refine last_ (i := 7) (N := some 32) #[true, true, true, true, true, true, true, true, false] rfl rfl (by kernel_rfl) (by decide) (fun K hK => ?_)
        refine goes_ Tryz.func24 (by kernel_rfl) rfl #[.slice A0 xs.length k0, .agg #[.int .i64 x.f0, .bool x.f1, .int .i64 x.f2, .string x.f3, .slice B4 x.f4.length d4, .slice B5 x.f5.length d5], .string r] (by rfl) rfl rfl (by simp only [List.map_toArray, List.map_cons, List.map_nil]; rfl) ?_
        with_reducible refine (IH.out x B4 d4 B5 d5 r xs a (.slice A0 xs.length k0) base _ (RD.out.mono (fun k hk => hk.1)) HP.out.O (HPT0.out _ _ _ HP.out) (by have h1_ := HN.out; have h2_ := congrArg List.length HE.out; simp only [List.length_append] at h2_; omega) HRC.out).mono ?_
        rintro e w8 ⟨v1, rfl, ho, hg, hat⟩
        refine ⟨_, rfl, ?_⟩
        have n1 := Aside0.mk (HP.out.row ho hg hat)
        clear HP ho hg hat BK8 RD
        have HP := n1
        clear n1
        refine hK.out _ _ ?_
        clear hK K
        refine norm_ (a' := ?_) ?_ ?_
        rotate_left
        · show Act.put _ (some 32) _ = _
          simp only [Act.put, List.setIfInBounds_toArray, List.set_cons_zero, List.set_cons_succ, i64_w, i32_w]
          rfl
        refine pure_ (i := 8) (N := some 0) (v := ?_) (a' := ?_) #[true, true, true, true, true, true, true, true, true] rfl rfl (by kernel_rfl) (fun _ _ _ h => h) (Or.inl ⟨by rfl, ?_⟩) ?_ ?_
        rotate_left
        · intro w'
          go_simp
          with_reducible rfl
        rotate_left
        · simp only [Act.put, List.setIfInBounds_toArray, List.set_cons_zero, List.set_cons_succ, i64_w, i32_w]
          rfl
        refine done_ (by kernel_rfl) ?_
        go_wp2_with fail
        go_roundg k1
        case measure => omega
        case rel => exact ⟨_, i + 1, xs ++ a, b', rfl, ⟨by have h1_ := HM.out; have h2_ := HII.out; have h3_ := HI.out; unfold wrap64; omega⟩, ⟨by have := HI.out; omega⟩, HA, ⟨by rw [List.append_assoc]; exact HE.out⟩, HP⟩
end Go.Proofs.YtlofkjdcapbohaaGreatDoor.PConfKeeps
