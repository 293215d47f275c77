/- For TopServed: the law's text, walked, out of facts about the plain functions. -/
import Derived.Test.YtbldjamcnohfjaaDoorSvG
import Derived.Test.YtbldjamcnohfjaaDoorSvH
import Derived.Test.YtbldjamcnohfjaaDoorSvJ
namespace Go.Proofs.YtbldjamcnohfjaaDoor.PTopServed
open Go.RowKit Go.Proofs.YtbldjamcnohfjaaDoorW.PrintWords Go.Proofs.YtbldjamcnohfjaaDoorW.PrintLast Go.Proofs.YtbldjamcnohfjaaDoorW.PrintMore
set_option linter.unusedVariables false
set_option linter.unusedSimpArgs false
/-- what is known of one output of the two sites -/
structure Idx (k : Nat) (l0 l1 : List S30) (S : List ByteArray) (x : S30) (a b c : ByteArray) (was is : Bool) : Prop where
  ad : ship_Address.f k x.f0 = some (a, 0)
  at0 : mastkeep1_at.f k l0 x.f0 = some (b, was)
  at1 : mastkeep1_at.f k l1 x.f0 = some (c, is)
  ct : slices_Contains_string_string.f k S a = some (was != is || (b.toList != c.toList))
  rq : Req k a x.f0
  sv : ∀ code path body e0, Answers l1 a x.f0 code path body e0 → is = true → a.size ≤ 200 → e0 = 0 ∧ code = 200 ∧ body = c ∧ path = x.f0
structure Sv (k : Nat) (l0 l1 : List S30) (S : List ByteArray) (ad0 tr0 ad1 tr1 : Nat → ByteArray) : Prop where
  h0 : ship_CheckOuts.f k l0 = some 0
  h1 : ship_CheckOuts.f k l1 = some 0
  a0 : Ads k l0 ad0 tr0
  a1 : Ads k l1 ad1 tr1
  z0 : ∀ j : Nat, j < l0.length → (rd_T30 l0 j).f0.size ≤ maxLen
  z1 : ∀ j : Nat, j < l1.length → (rd_T30 l1 j).f0.size ≤ maxLen
  s : S = srt (ev2 (bd l0 l0.length) ad1 l1 (ev1 (bd l1 l1.length) ad0 l0 l0.length) l1.length)
  so : Sorted l1
  ix : ∀ j : Nat, j < (l0 ++ l1).length → ∃ a b c was is, Idx k l0 l1 S (rd_T30 (l0 ++ l1) j) a b c was is
  is : slices_IsSorted_string_string.f k S = some true
theorem R_fresh {α β : Type} {d : Kd α} {d' : Kd β} {W w1 : World} {e e' base : Nat} {v u : Value} {xs : List α} {ys : List β} {ok ok' : Nat → Prop} (h : d.R e W base ok v xs) (hE : d.E = []) (hR : d'.R e' W base ok' u ys) (hE' : d'.E = []) (hne : e ≠ e') (hg : W.grownBy w1 u.ownBlock) : d.R e w1 base ok v xs :=
  Kd.R_grown2 h hE hg (fun k hk => by
    obtain ⟨ho, inner, hown, _⟩ := hR
    rcases hown.2 with ⟨rfl, _⟩ | ⟨g, cap, cur, rfl, _, hb, _⟩
    · cases hk
    · have : g = k := by simpa [Value.ownBlock] using hk
      subst this
      exact Kd.R_ne h hb hne)
theorem events_err (k : Nat) (A0 : Option Addr) (c0 : Nat) (l0 : List S30) (A1 : Option Addr) (c1 : Nat) (l1 : List S30) (w : World) (e0 : Int) (hr0 : Kd.C k30 w A0 l0.length l0) (hc0 : l0.length ≤ c0) (hr1 : Kd.C k30 w A1 l1.length l1) (hc1 : l1.length ≤ c1) (hne : e0 ≠ 0)
    (h : ship_CheckOuts.f k l0 = some e0 ∨ (ship_CheckOuts.f k l0 = some 0 ∧ ship_CheckOuts.f k l1 = some e0)) :
    Calls Tryd.prog 5 #[.slice A0 l0.length c0, .slice A1 l1.length c1] w fun e w' => e = .returned (.tuple #[.slice none 0 0, .int .i64 e0]) ∧ Below w.heap.size w w' := by
  have HR0 := Aside0.mk hr0
  have HC0 := Aside0.mk hc0
  have HR1 := Aside0.mk hr1
  have HC1 := Aside0.mk hc1
  have HB := Aside0.mk (Below.refl w.heap.size w)
  have e1 : (e0 != 0) = true := bne_iff_ne.2 hne
  have e2 : (e0 == 0) = false := beq_eq_false_iff_ne.2 hne
  clear hr0 hc0 hr1 hc1 hne
  rcases h with h | ⟨h, h'⟩
  · have H0 := Aside0.mk h
    clear h
    go_enter Tryd.func5, Tryd.ntmps5
    go_wp2_with (go_at_call 12; refine (ship_CheckOuts.calls k A0 c0 l0 e0 _ ?s0 HC0.out H0.out).mono ?_; (case s0 => exact HR0.out); rintro e W1 ⟨rfl, hb⟩; have n1 := Aside0.mk (below_step HB.out hb); clear HB hb; have HB := n1; clear n1)
    go_ret2
    exact ⟨rfl, HB.out⟩
  · have H0 := Aside0.mk h
    have H1 := Aside0.mk h'
    clear h h'
    go_enter Tryd.func5, Tryd.ntmps5
    go_wp2_with (first | (go_at_call 12; (with_reducible refine (ship_CheckOuts.calls k A0 c0 l0 0 _ ?s0 HC0.out H0.out).mono ?_); (case s0 => exact Kd.C_below HR0.out HB.out); rintro e W1 ⟨rfl, hb⟩; have n1 := Aside0.mk (below_step HB.out hb); clear HB hb; have HB := n1; clear n1) | (go_at_call 12; (with_reducible refine (ship_CheckOuts.calls k A1 c1 l1 e0 _ ?s1 HC1.out H1.out).mono ?_); (case s1 => exact Kd.C_below HR1.out HB.out); rintro e W2 ⟨rfl, hb⟩; have n1 := Aside0.mk (below_step HB.out hb); clear HB hb; have HB := n1; clear n1))
    go_ret2
    exact ⟨rfl, HB.out⟩
set_option maxRecDepth 100000 in
theorem law_err (k : Nat) (A0 : Option Addr) (c0 : Nat) (l0 : List S30) (A1 : Option Addr) (c1 : Nat) (l1 : List S30) (w : World) (e0 : Int) (hr0 : Kd.C k30 w A0 l0.length l0) (hc0 : l0.length ≤ c0) (hr1 : Kd.C k30 w A1 l1.length l1) (hc1 : l1.length ≤ c1) (hne : e0 ≠ 0)
    (h : ship_CheckOuts.f k l0 = some e0 ∨ (ship_CheckOuts.f k l0 = some 0 ∧ ship_CheckOuts.f k l1 = some e0)) (haw : mastkeep1_awakeShip.f k = some true) :
    Calls Tryd.prog 3 #[.slice A0 l0.length c0, .slice A1 l1.length c1] w fun e w' => e = .returned (.bool true) ∧ Below w.heap.size w w' := by
  have HR0 := Aside0.mk hr0
  have HR1 := Aside0.mk hr1
  have HC0 := Aside0.mk hc0
  have HC1 := Aside0.mk hc1
  have HH := Aside0.mk h
  have HN := Aside0.mk hne
  have HAW := Aside0.mk haw
  have e1 : (e0 != 0) = true := bne_iff_ne.2 hne
  have e2 : (e0 == 0) = false := beq_eq_false_iff_ne.2 hne
  have HB := Aside0.mk (Below.refl w.heap.size w)
  clear hr0 hr1 h hne hc0 hc1 haw
  go_enter Tryd.func3, Tryd.ntmps3
  go_wp2_with (first | (go_at_call 4; refine (mastkeep1_awakeShip.calls k true _ HAW.out).mono ?_; rintro e W1 ⟨rfl, hb⟩; have n1 := Aside0.mk (below_step HB.out hb); clear HB hb; have HB := n1; clear n1) | (go_at_call 5; refine (events_err k A0 c0 l0 A1 c1 l1 _ e0 (Kd.C_below HR0.out HB.out) HC0.out (Kd.C_below HR1.out HB.out) HC1.out HN.out HH.out).mono ?_; rintro e W2 ⟨rfl, hb⟩; have n1 := Aside0.mk (below_step HB.out hb); clear HB hb; have HB := n1; clear n1))
  go_ret
  exact ⟨rfl, HB.out⟩
set_option maxHeartbeats 4000000 in
set_option maxRecDepth 100000 in
theorem law_ok (k : Nat) (A0 : Option Addr) (c0 : Nat) (l0 : List S30) (A1 : Option Addr) (c1 : Nat) (l1 : List S30) (w : World) (S : List ByteArray) (ad0 tr0 ad1 tr1 : Nat → ByteArray) (hr0 : Kd.C k30 w A0 l0.length l0) (hc0 : l0.length ≤ c0) (hr1 : Kd.C k30 w A1 l1.length l1) (hc1 : l1.length ≤ c1) (hl0 : l0.length ≤ 1000000000) (hl1 : l1.length ≤ 1000000000)
    (hs : Sv k l0 l1 S ad0 tr0 ad1 tr1) (haw : mastkeep1_awakeShip.f k = some true) :
    Calls Tryd.prog 3 #[.slice A0 l0.length c0, .slice A1 l1.length c1] w fun e w' => e = .returned (.bool true) ∧ Below w.heap.size w w' := by
  have HR0 := Aside0.mk hr0
  have HR1 := Aside0.mk hr1
  have HC0 := Aside0.mk hc0
  have HC1 := Aside0.mk hc1
  have HS := Aside0.mk hs
  have HAW := Aside0.mk haw
  have HB := Aside0.mk (Below.refl w.heap.size w)
  clear hr0 hr1 hc0 hc1 hs haw
  have hu30 := Tryd.underlying30
  have hu37 := Tryd.underlying37
  go_enter Tryd.func3, Tryd.ntmps3
  go_upto_region 6 with (first | (go_at_call 4; refine (mastkeep1_awakeShip.calls k true _ HAW.out).mono ?_; rintro e W1 ⟨rfl, hb⟩; have n1 := Aside0.mk (below_step HB.out hb); clear HB; have HB := n1; clear n1; clear hb) | (go_at_call 5; refine (events_ok k A0 c0 l0 A1 c1 l1 _ ad0 tr0 ad1 tr1 (Kd.C_below HR0.out HB.out) HC0.out (Kd.C_below HR1.out HB.out) HC1.out hl0 hl1 HS.out.h0 HS.out.h1 HS.out.a0 HS.out.a1 HS.out.z0 HS.out.z1).mono ?_; rintro e W2 ⟨v5, rfl, hR, hb⟩; rw [← HS.out.s] at hR; have HV := Aside0.mk (Kd.R_lower hR (below_size HB.out)); have n1 := Aside0.mk (below_step HB.out hb); clear HB; have HB := n1; clear n1; clear hR hb))
  go_wp2_with (first | (go_at_call 6; refine (clone_calls A0 c0 l0 _ (Kd.C_below HR0.out HB.out) hl0).mono ?_; rintro e W3 ⟨v30, rfl, hR, hb⟩; have HK := Aside0.mk (Kd.R_lower hR (below_size HB.out)); have n2 := Aside0.mk (Kd.R_below HV.out hb); clear HV; have HV := n2; clear n2; have n1 := Aside0.mk (below_step HB.out hb); clear HB; have HB := n1; clear n1; clear hR hb) | ((with_reducible refine gate_builtin (b := .append) (xs := #[.tmp 30, .tmp 31]) rfl ?_); at_builtin; (refine Kd.R_append_rows k30 (w0 := w) w.heap.size rfl (.tmp 30) (.tmp 31) 22 30 (.agg #[.string ⟨#[]⟩, .string ⟨#[]⟩]) 32 rfl Tryd.underlying22 info30s rfl (by decide) (by omega) _ l0 l1 A1 l1.length c1 (fun _ => True) (fun _ => False) rfl rfl HK.out (Kd.C_below HR1.out HB.out) ?aK (fun _ hk => hk.elim) (fun _ _ => trivial) HB.out (below_size HB.out) ?aL ?_; (case aK => exact fun x cs h => h); (case aL => omega); intro v32 w2 ho hb hg hat; have n2 := Aside0.mk (R_fresh HV.out rfl HK.out rfl (by decide) hg); clear HV; have HV := n2; clear n2; obtain ⟨Av, cv, rfl, hcv, hCv⟩ := Kd.R_reads ho; have HA := Aside0.mk hCv; have HAc := Aside0.mk hcv; have n1 := Aside0.mk hb; clear HB HK ho hb hg hat hcv hCv; have HB := n1; clear n1)))
  obtain ⟨Al, cl, hv, hcl, hCl⟩ := Kd.R_reads HV.out
  subst hv
  have HL := Aside0.mk hCl
  have HLc := Aside0.mk hcl
  clear HV hCl hcl
  have HD := Aside0.mk (Below.refl w2.heap.size w2)
  go_loopw [34] (fun i wr => ∃ j : Nat, j ≤ l0.length + l1.length ∧ i = .int .i64 j ∧ Aside0 (Below w2.heap.size w2 wr)) (fun i _ => (l0.length + l1.length) - (intOf i).toNat)
  case atStart => exact ⟨0, Nat.zero_le _, rfl, HD⟩
  case round =>
    clear HD
    obtain ⟨j, hj, rfl, HD⟩ := hrel
    by_cases hlt : j < l0.length + l1.length
    · have hlt' : (j : Int) < (l0.length : Int) + (l1.length : Int) := by omega
      have hjl : j < (l0 ++ l1).length := by rw [List.length_append]; exact hlt
      obtain ⟨pa, rfl, x0, x1⟩ := at_T30 (Kd.C_below HA.out HD.out) j (by omega) (by rw [List.length_append] at *; omega)
      rw [Int.toNat_natCast] at x0 x1
      obtain ⟨a, b, c, was, is, hi⟩ := HS.out.ix j hjl
      have HI := Aside0.mk hi
      clear hi hjl
      generalize rd_T30 (l0 ++ l1) j = x at *
      skip
      go_upto_region 9 with (fail)
      have n1 := Aside0.mk (below_alloc HD.out (.cells #[.string x.f0, .string x.f1] 30))
      have BX := Aside0.mk (blk_new wr (.cells #[.string x.f0, .string x.f1] 30))
      clear HD x0 x1
      have HD := n1
      clear n1
      generalize wr.alloc (.cells #[.string x.f0, .string x.f1] 30) = W4 at HD BX ⊢
      generalize wr.heap.size = gx at BX ⊢
      have y0 : World.cell? _ ⟨gx, 0, none⟩ = some (Value.string x.f0) := (blk_cell BX.out 0).trans rfl
      go_upto_region 14 with (first | (go_at_call 7; refine (ship_Address.calls k x.f0 a 0 _ HI.out.ad).mono ?_; rintro e W5 ⟨rfl, hb⟩; have n1 := Aside0.mk (below_step HD.out hb); have n2 := Aside0.mk (blk_below BX.out hb); clear HD BX hb y0; have HD := n1; have BX := n2; clear n1 n2; have y0 : World.cell? _ ⟨gx, 0, none⟩ = some (Value.string x.f0) := (blk_cell BX.out 0).trans rfl) | (go_at_call 8; (with_reducible refine (mastkeep1_at.calls k A0 c0 l0 x.f0 b was _ ?u0 HC0.out HI.out.at0).mono ?_); (case u0 => exact Kd.C_below HR0.out (below_step HB.out HD.out)); rintro e W5 ⟨rfl, hb⟩; have n1 := Aside0.mk (below_step HD.out hb); have n2 := Aside0.mk (blk_below BX.out hb); clear HD BX hb y0; have HD := n1; have BX := n2; clear n1 n2; have y0 : World.cell? _ ⟨gx, 0, none⟩ = some (Value.string x.f0) := (blk_cell BX.out 0).trans rfl) | (go_at_call 8; (with_reducible refine (mastkeep1_at.calls k A1 c1 l1 x.f0 c is _ ?u1 HC1.out HI.out.at1).mono ?_); (case u1 => exact Kd.C_below HR1.out (below_step HB.out HD.out)); rintro e W5 ⟨rfl, hb⟩; have n1 := Aside0.mk (below_step HD.out hb); have n2 := Aside0.mk (blk_below BX.out hb); clear HD BX hb y0; have HD := n1; have BX := n2; clear n1 n2; have y0 : World.cell? _ ⟨gx, 0, none⟩ = some (Value.string x.f0) := (blk_cell BX.out 0).trans rfl))
      go_cut [71] (fun v71 wc => v71 = .bool false ∧ Aside0 (Below w2.heap.size w2 wc) ∧ Aside0 (wc.heap[gx]? = some (.cells #[.string x.f0, .string x.f1] 30 (0, 0))))
      case first =>
        have CT := Aside0.mk HI.out.ct
        cases was
        case false =>
          cases is
          case false =>
            by_cases hbc : b.toList = c.toList
            · have e1 : (b.toList != c.toList) = false := bne_eq_false_iff_eq.2 hbc
              have e2 : (b.toList == c.toList) = true := beq_iff_eq.2 hbc
              have CV := Aside0.mk (show slices_Contains_string_string.f k S a = some false by rw [CT.out, e1]; rfl)
              clear CT hbc
              go_wp2_with (go_at_call 9; refine (slices_Contains_string_string.calls k Al cl S a false _ ?s1 HLc.out CV.out).mono ?_; (case s1 => exact Kd.C_below HL.out HD.out); rintro e w' ⟨rfl, hd⟩; have hb := drawn_below hd; clear hd; have n1 := Aside0.mk (below_step HD.out hb); have n2 := Aside0.mk (blk_below BX.out hb); clear HD BX hb y0; have HD := n1; have BX := n2; clear n1 n2; have y0 : World.cell? _ ⟨gx, 0, none⟩ = some (Value.string x.f0) := (blk_cell BX.out 0).trans rfl)
              go_meet
              case rel => exact ⟨rfl, HD, BX⟩
            · have e1 : (b.toList != c.toList) = true := bne_iff_ne.2 hbc
              have e2 : (b.toList == c.toList) = false := beq_eq_false_iff_ne.2 hbc
              have CV := Aside0.mk (show slices_Contains_string_string.f k S a = some true by rw [CT.out, e1]; rfl)
              clear CT hbc
              go_wp2_with (go_at_call 9; refine (slices_Contains_string_string.calls k Al cl S a true _ ?s1 HLc.out CV.out).mono ?_; (case s1 => exact Kd.C_below HL.out HD.out); rintro e w' ⟨rfl, hd⟩; have hb := drawn_below hd; clear hd; have n1 := Aside0.mk (below_step HD.out hb); have n2 := Aside0.mk (blk_below BX.out hb); clear HD BX hb y0; have HD := n1; have BX := n2; clear n1 n2; have y0 : World.cell? _ ⟨gx, 0, none⟩ = some (Value.string x.f0) := (blk_cell BX.out 0).trans rfl)
              go_meet
              case rel => exact ⟨rfl, HD, BX⟩
          case true =>
            by_cases hbc : b.toList = c.toList
            · have e1 : (b.toList != c.toList) = false := bne_eq_false_iff_eq.2 hbc
              have e2 : (b.toList == c.toList) = true := beq_iff_eq.2 hbc
              have CV := Aside0.mk (show slices_Contains_string_string.f k S a = some true by rw [CT.out, e1]; rfl)
              clear CT hbc
              go_wp2_with (go_at_call 9; refine (slices_Contains_string_string.calls k Al cl S a true _ ?s1 HLc.out CV.out).mono ?_; (case s1 => exact Kd.C_below HL.out HD.out); rintro e w' ⟨rfl, hd⟩; have hb := drawn_below hd; clear hd; have n1 := Aside0.mk (below_step HD.out hb); have n2 := Aside0.mk (blk_below BX.out hb); clear HD BX hb y0; have HD := n1; have BX := n2; clear n1 n2; have y0 : World.cell? _ ⟨gx, 0, none⟩ = some (Value.string x.f0) := (blk_cell BX.out 0).trans rfl)
              go_meet
              case rel => exact ⟨rfl, HD, BX⟩
            · have e1 : (b.toList != c.toList) = true := bne_iff_ne.2 hbc
              have e2 : (b.toList == c.toList) = false := beq_eq_false_iff_ne.2 hbc
              have CV := Aside0.mk (show slices_Contains_string_string.f k S a = some true by rw [CT.out, e1]; rfl)
              clear CT hbc
              go_wp2_with (go_at_call 9; refine (slices_Contains_string_string.calls k Al cl S a true _ ?s1 HLc.out CV.out).mono ?_; (case s1 => exact Kd.C_below HL.out HD.out); rintro e w' ⟨rfl, hd⟩; have hb := drawn_below hd; clear hd; have n1 := Aside0.mk (below_step HD.out hb); have n2 := Aside0.mk (blk_below BX.out hb); clear HD BX hb y0; have HD := n1; have BX := n2; clear n1 n2; have y0 : World.cell? _ ⟨gx, 0, none⟩ = some (Value.string x.f0) := (blk_cell BX.out 0).trans rfl)
              go_meet
              case rel => exact ⟨rfl, HD, BX⟩
        case true =>
          cases is
          case false =>
            by_cases hbc : b.toList = c.toList
            · have e1 : (b.toList != c.toList) = false := bne_eq_false_iff_eq.2 hbc
              have e2 : (b.toList == c.toList) = true := beq_iff_eq.2 hbc
              have CV := Aside0.mk (show slices_Contains_string_string.f k S a = some true by rw [CT.out, e1]; rfl)
              clear CT hbc
              go_wp2_with (go_at_call 9; refine (slices_Contains_string_string.calls k Al cl S a true _ ?s1 HLc.out CV.out).mono ?_; (case s1 => exact Kd.C_below HL.out HD.out); rintro e w' ⟨rfl, hd⟩; have hb := drawn_below hd; clear hd; have n1 := Aside0.mk (below_step HD.out hb); have n2 := Aside0.mk (blk_below BX.out hb); clear HD BX hb y0; have HD := n1; have BX := n2; clear n1 n2; have y0 : World.cell? _ ⟨gx, 0, none⟩ = some (Value.string x.f0) := (blk_cell BX.out 0).trans rfl)
              go_meet
              case rel => exact ⟨rfl, HD, BX⟩
            · have e1 : (b.toList != c.toList) = true := bne_iff_ne.2 hbc
              have e2 : (b.toList == c.toList) = false := beq_eq_false_iff_ne.2 hbc
              have CV := Aside0.mk (show slices_Contains_string_string.f k S a = some true by rw [CT.out, e1]; rfl)
              clear CT hbc
              go_wp2_with (go_at_call 9; refine (slices_Contains_string_string.calls k Al cl S a true _ ?s1 HLc.out CV.out).mono ?_; (case s1 => exact Kd.C_below HL.out HD.out); rintro e w' ⟨rfl, hd⟩; have hb := drawn_below hd; clear hd; have n1 := Aside0.mk (below_step HD.out hb); have n2 := Aside0.mk (blk_below BX.out hb); clear HD BX hb y0; have HD := n1; have BX := n2; clear n1 n2; have y0 : World.cell? _ ⟨gx, 0, none⟩ = some (Value.string x.f0) := (blk_cell BX.out 0).trans rfl)
              go_meet
              case rel => exact ⟨rfl, HD, BX⟩
          case true =>
            by_cases hbc : b.toList = c.toList
            · have e1 : (b.toList != c.toList) = false := bne_eq_false_iff_eq.2 hbc
              have e2 : (b.toList == c.toList) = true := beq_iff_eq.2 hbc
              have CV := Aside0.mk (show slices_Contains_string_string.f k S a = some false by rw [CT.out, e1]; rfl)
              clear CT hbc
              go_wp2_with (go_at_call 9; refine (slices_Contains_string_string.calls k Al cl S a false _ ?s1 HLc.out CV.out).mono ?_; (case s1 => exact Kd.C_below HL.out HD.out); rintro e w' ⟨rfl, hd⟩; have hb := drawn_below hd; clear hd; have n1 := Aside0.mk (below_step HD.out hb); have n2 := Aside0.mk (blk_below BX.out hb); clear HD BX hb y0; have HD := n1; have BX := n2; clear n1 n2; have y0 : World.cell? _ ⟨gx, 0, none⟩ = some (Value.string x.f0) := (blk_cell BX.out 0).trans rfl)
              go_meet
              case rel => exact ⟨rfl, HD, BX⟩
            · have e1 : (b.toList != c.toList) = true := bne_iff_ne.2 hbc
              have e2 : (b.toList == c.toList) = false := beq_eq_false_iff_ne.2 hbc
              have CV := Aside0.mk (show slices_Contains_string_string.f k S a = some true by rw [CT.out, e1]; rfl)
              clear CT hbc
              go_wp2_with (go_at_call 9; refine (slices_Contains_string_string.calls k Al cl S a true _ ?s1 HLc.out CV.out).mono ?_; (case s1 => exact Kd.C_below HL.out HD.out); rintro e w' ⟨rfl, hd⟩; have hb := drawn_below hd; clear hd; have n1 := Aside0.mk (below_step HD.out hb); have n2 := Aside0.mk (blk_below BX.out hb); clear HD BX hb y0; have HD := n1; have BX := n2; clear n1 n2; have y0 : World.cell? _ ⟨gx, 0, none⟩ = some (Value.string x.f0) := (blk_cell BX.out 0).trans rfl)
              go_meet
              case rel => exact ⟨rfl, HD, BX⟩
      case rest =>
        clear HD BX y0
        obtain ⟨rfl, HD, BX⟩ := hcut
        have y0 : World.cell? _ ⟨gx, 0, none⟩ = some (Value.string x.f0) := (blk_cell BX.out 0).trans rfl
        go_upto_region 17 with (go_at_call 10; refine (serve_calls k _ c1 l1 a x.f0 _ ad1 tr1 (Kd.C_below HR1.out (below_step HB.out HD.out)) HC1.out (by omega) HS.out.h1 HS.out.a1 HI.out.rq HS.out.so).mono ?_; rintro e W8 ⟨code, path, body, e0, rfl, hb, hans⟩; have AN := Aside0.mk hans; clear hans; have n1 := Aside0.mk (below_step HD.out hb); have n2 := Aside0.mk (blk_below BX.out hb); clear HD BX hb y0; have HD := n1; have BX := n2; clear n1 n2; have y0 : World.cell? _ ⟨gx, 0, none⟩ = some (Value.string x.f0) := (blk_cell BX.out 0).trans rfl)
        have BR := Aside0.mk (blk_new W8 (.cells #[.int .i64 code, .string path, .string body] 37))
        have n1 := Aside0.mk (below_alloc HD.out (.cells #[.int .i64 code, .string path, .string body] 37))
        have n2 := Aside0.mk (blk_alloc BX.out (.cells #[.int .i64 code, .string path, .string body] 37))
        clear HD BX y0
        have HD := n1
        have BX := n2
        clear n1 n2
        generalize W8.alloc (.cells #[.int .i64 code, .string path, .string body] 37) = W9 at HD BX BR ⊢
        generalize W8.heap.size = gr at BR ⊢
        have y0 : World.cell? _ ⟨gx, 0, none⟩ = some (Value.string x.f0) := (blk_cell BX.out 0).trans rfl
        have r0 : World.cell? _ ⟨gr, 0, none⟩ = some (Value.int .i64 code) := (blk_cell BR.out 0).trans rfl
        have r1 : World.cell? _ ⟨gr, 1, none⟩ = some (Value.string path) := (blk_cell BR.out 1).trans rfl
        have r2 : World.cell? _ ⟨gr, 2, none⟩ = some (Value.string body) := (blk_cell BR.out 2).trans rfl
        cases is
        case false =>
          go_wp2_with fail
          go_round
          case measure => simp [intOf]; omega
          case rel => exact ⟨j + 1, by omega, by simp, HD⟩
        case true =>
          by_cases hsz : a.size ≤ 200
          · obtain ⟨h1, h2, h3, h4⟩ := HI.out.sv _ _ _ _ AN.out rfl hsz
            subst h1 h2 h3 h4
            have e1 : decide ((a.size : Int) ≤ 200) = true := decide_eq_true (by omega)
            have e2 : decide (a.size ≤ 200) = true := decide_eq_true hsz
            go_wp2_with fail
            go_round
            case measure => simp [intOf]; omega
            case rel => exact ⟨j + 1, by omega, by simp, HD⟩
          · have e1 : decide ((a.size : Int) ≤ 200) = false := decide_eq_false (by omega)
            have e2 : decide (a.size ≤ 200) = false := decide_eq_false hsz
            go_wp2_with fail
            go_round
            case measure => simp [intOf]; omega
            case rel => exact ⟨j + 1, by omega, by simp, HD⟩
    · obtain rfl : j = l0.length + l1.length := by omega
      have hlt' : ¬ (((l0.length + l1.length : Nat) : Int) < ((l0.length : Int) + (l1.length : Int))) := by omega
      go_wp2_with (go_at_call 11; refine (slices_IsSorted_string_string.calls k Al cl S true _ ?s1 HLc.out HS.out.is).mono ?_; (case s1 => exact Kd.C_below HL.out HD.out); rintro e w' ⟨rfl, hd⟩; have hb := drawn_below hd; clear hd)
      go_ret
      exact ⟨rfl, below_step (below_step HB.out HD.out) hb⟩
end Go.Proofs.YtbldjamcnohfjaaDoor.PTopServed
