/- For the laws of conf on schemas: a field; fieldFault, walked. No condition. -/
import Derived.Test.YtlofkjdcapbohaaGreatDoorCfCE
import Derived.Test.YtlofkjdcapbohaaGreatDoorMaps
import Derived.Test.YtlofkjdcapbohaaGreatDoorPConfKeepsx14
namespace Go.Proofs.YtlofkjdcapbohaaGreatDoor.PConfKeeps
open Go.RowKit Go.Proofs.YtlofkjdcapbohaaGreatDoorW.PrintWords Go.Proofs.YtlofkjdcapbohaaGreatDoorW.PrintLast Go.Proofs.YtlofkjdcapbohaaGreatDoorW.PrintMore
set_option linter.unusedVariables false
set_option linter.unusedSimpArgs false

structure S44 where
 f0 : ByteArray
 f1 : Int
 f2 : Bool
 f3 : Bool
 f4 : Int
 f5 : Int
 f6 : List ByteArray
 f7 : S25
def z44 : S44 := ⟨⟨#[]⟩, 0, false, false, 0, 0, [], z25⟩
def k44 : Kd S44 := Kd.iso (Kd.pair Kd.string (Kd.pair (Kd.int .i64) (Kd.pair Kd.bool (Kd.pair Kd.bool (Kd.pair (Kd.int .i64) (Kd.pair (Kd.int .i64) (Kd.pair (Kd.slice 9 Kd.string) k25))))))) (fun x : S44 => (x.f0, x.f1, x.f2, x.f3, x.f4, x.f5, x.f6, x.f7))
theorem k44_open {w : World} {x : S44} {cs : List Value} (h : k44.K w x cs) : ∃ A6 c6 A11 c11 A12 c12, cs = [.string x.f0, .int .i64 x.f1, .bool x.f2, .bool x.f3, .int .i64 x.f4, .int .i64 x.f5, .slice A6 x.f6.length c6, .int .i64 x.f7.f0, .bool x.f7.f1, .int .i64 x.f7.f2, .string x.f7.f3, .slice A11 x.f7.f4.length c11, .slice A12 x.f7.f5.length c12] ∧ x.f6.length ≤ c6 ∧ Kd.string.C w A6 x.f6.length x.f6 ∧ Rd w x.f7 A11 c11 A12 c12 := by
 obtain ⟨_, _, rfl, rfl, ⟨_, _, rfl, rfl, ⟨_, _, rfl, rfl, ⟨_, _, rfl, rfl, ⟨_, _, rfl, rfl, ⟨_, _, rfl, rfl, ⟨_, _, rfl, ⟨A6, c6, rfl, l6, g6⟩, s7⟩⟩⟩⟩⟩⟩⟩ := h
 obtain ⟨A11, c11, A12, c12, rfl, l11, g11, l12, g12⟩ := k25_open s7
 exact ⟨A6, c6, A11, c11, A12, c12, rfl, l6, g6, g11, l11, g12, l12⟩
def rd_T44 (xs : List S44) (i : Int) : S44 := xs.getD i.toNat z44
theorem at_T44 {w : World} {A : Option Addr} {n : Nat} {xs : List S44} (h : Kd.C k44 w A n xs) (i : Int) (h0 : 0 ≤ i) (h1 : i < n) : ∃ ad A6 c6 A11 c11 A12 c12, A = some ad ∧ w.cell? (ad.add (i.toNat * 13)) = some (.string (rd_T44 xs i).f0) ∧ w.cell? ⟨(ad.add (i.toNat * 13)).block, (ad.add (i.toNat * 13)).off + 1, none⟩ = some (.int .i64 (rd_T44 xs i).f1) ∧ w.cell? ⟨(ad.add (i.toNat * 13)).block, (ad.add (i.toNat * 13)).off + 2, none⟩ = some (.bool (rd_T44 xs i).f2) ∧ w.cell? ⟨(ad.add (i.toNat * 13)).block, (ad.add (i.toNat * 13)).off + 3, none⟩ = some (.bool (rd_T44 xs i).f3) ∧ w.cell? ⟨(ad.add (i.toNat * 13)).block, (ad.add (i.toNat * 13)).off + 4, none⟩ = some (.int .i64 (rd_T44 xs i).f4) ∧ w.cell? ⟨(ad.add (i.toNat * 13)).block, (ad.add (i.toNat * 13)).off + 5, none⟩ = some (.int .i64 (rd_T44 xs i).f5) ∧ w.cell? ⟨(ad.add (i.toNat * 13)).block, (ad.add (i.toNat * 13)).off + 6, none⟩ = some (.slice A6 (rd_T44 xs i).f6.length c6) ∧ w.cell? ⟨(ad.add (i.toNat * 13)).block, (ad.add (i.toNat * 13)).off + 7, none⟩ = some (.int .i64 (rd_T44 xs i).f7.f0) ∧ w.cell? ⟨(ad.add (i.toNat * 13)).block, (ad.add (i.toNat * 13)).off + 8, none⟩ = some (.bool (rd_T44 xs i).f7.f1) ∧ w.cell? ⟨(ad.add (i.toNat * 13)).block, (ad.add (i.toNat * 13)).off + 9, none⟩ = some (.int .i64 (rd_T44 xs i).f7.f2) ∧ w.cell? ⟨(ad.add (i.toNat * 13)).block, (ad.add (i.toNat * 13)).off + 10, none⟩ = some (.string (rd_T44 xs i).f7.f3) ∧ w.cell? ⟨(ad.add (i.toNat * 13)).block, (ad.add (i.toNat * 13)).off + 11, none⟩ = some (.slice A11 (rd_T44 xs i).f7.f4.length c11) ∧ w.cell? ⟨(ad.add (i.toNat * 13)).block, (ad.add (i.toNat * 13)).off + 12, none⟩ = some (.slice A12 (rd_T44 xs i).f7.f5.length c12) ∧ (rd_T44 xs i).f6.length ≤ c6 ∧ Kd.string.C w A6 (rd_T44 xs i).f6.length (rd_T44 xs i).f6 ∧ Rd w (rd_T44 xs i).f7 A11 c11 A12 c12 := by
 obtain ⟨ad, c, e, _, hK, hc0⟩ := Kd.C_get h z44 i h0 h1
 have hc : ∀ j u, c[j]? = some u → w.cell? (ad.add (i.toNat * 13 + j)) = some u := hc0
 obtain ⟨A6, c6, A11, c11, A12, c12, rfl, l6, g6, g7⟩ := k44_open hK
 exact ⟨ad, A6, c6, A11, c11, A12, c12, e, hc 0 _ rfl, by rw [← add_field _ _ 1 (by omega)]; exact hc 1 _ rfl, by rw [← add_field _ _ 2 (by omega)]; exact hc 2 _ rfl, by rw [← add_field _ _ 3 (by omega)]; exact hc 3 _ rfl, by rw [← add_field _ _ 4 (by omega)]; exact hc 4 _ rfl, by rw [← add_field _ _ 5 (by omega)]; exact hc 5 _ rfl, by rw [← add_field _ _ 6 (by omega)]; exact hc 6 _ rfl, by rw [← add_field _ _ 7 (by omega)]; exact hc 7 _ rfl, by rw [← add_field _ _ 8 (by omega)]; exact hc 8 _ rfl, by rw [← add_field _ _ 9 (by omega)]; exact hc 9 _ rfl, by rw [← add_field _ _ 10 (by omega)]; exact hc 10 _ rfl, by rw [← add_field _ _ 11 (by omega)]; exact hc 11 _ rfl, by rw [← add_field _ _ 12 (by omega)]; exact hc 12 _ rfl, l6, g6, g7⟩
/-! maps of strings to bools -/
abbrev E1 (s : ByteArray) : Value := .string s
abbrev VB (b : Bool) : Value := .bool b
theorem E1_inj : ∀ x y, E1 x = E1 y → x = y := fun x y h => by injection h
theorem tm_k1 : Maps.Keyed Tryz.prog 9 := Maps.string_keyed Tryz.underlying9
theorem tm_q1 (s : ByteArray) (h : s.size ≤ maxLen) : ∃ q, keyOf Tryz.prog 9 (E1 s) = some q := ⟨_, Go.WideMaps.keyOf_string_mk Tryz.underlying9 h⟩
theorem tm_z4 (w : World) : (zeroValue 4).run Tryz.prog w = .ok (VB false) w := by kernel_rfl
abbrev MS := List (ByteArray × Bool)
abbrev MpS (b : Nat) (m : MS) (w : World) : Prop := Mp.Is Tryz.prog 9 E1 VB b m w
/-! fieldFault -/
def oneF (k : Nat) (l : List ByteArray) : Nat → Nat → Option Int
 | 0, _ => some 0
 | m + 1, i => if 5000 < (rdOf ByteArray.empty l (i : Int)).size then some 4 else (conf_badBytes.f k (rdOf ByteArray.empty l (i : Int))).bind fun b => if b = true then some 9 else oneF k l m (i + 1)
theorem lk_bool {α : Type} (o : Option α) (V : α → Value) (d : α) : (o.map V).getD (V d) = V (o.getD d) := by cases o <;> rfl
def ft29 (f : S44) : Bool := (f.f1 != -1) && (decide (f.f1 < 0) || decide (6 < f.f1))
def ft43 (f : S44) : Bool := (!f.f3) && ((f.f4 != 0) || (f.f5 != 0))
def ft63 (f : S44) : Bool := (decide (0 < f.f6.length)) && (f.f1 != 3)
def ft108 (f : S44) : Bool := ((f.f7.f0 != 0) && (f.f1 != -1)) && (f.f7.f0 != f.f1)
def fF3 (k : Nat) (f : S44) (l : List S95) (e : Int) : Option Int :=
 if e = 0 then (if ft108 f = true then some 10 else if f.f7.f0 = 0 then some 0 else (conf_hasStar.f k l).bind fun b => if b = true then some 1 else some 0) else some e
def fF2 (k : Nat) (f : S44) (l : List S95) : Option Int :=
 if ft29 f = true then some 10 else if ft43 f = true then some 1 else if f.f5 < f.f4 then some 5 else if ft63 f = true then some 1 else
  (oneF k f.f6 f.f6.length 0).bind fun e => if e = 0 then (Fck k f.f7).bind fun e => fF3 k f l e else some e
def fF (k : Nat) (f : S44) (seen : Bool) : Option Int :=
 (conf_steps.f k f.f0 true).bind fun st => if st.2 = true then (if st.1.length = 0 then some 3 else if seen = true then some 6 else fF2 k f st.1) else some 3
set_option maxHeartbeats 8000000 in
set_option maxRecDepth 100000 in
theorem ff_calls (k : Nat) (x : S44) (A6 : Option Addr) (c6 : Nat) (A11 : Option Addr) (c11 : Nat) (A12 : Option Addr) (c12 : Nat) (bm : Nat) (m : MS) (r : Int) (w : World) (l6 : x.f6.length ≤ c6) (h6 : Kd.C Kd.string w A6 x.f6.length x.f6) (h7 : Rd w x.f7 A11 c11 A12 c12) (hm : MpS bm m w) (hs : x.f0.size ≤ maxLen) (h : fF k x ((Mp.look m x.f0).getD false) = some r) :
  Calls Tryz.prog 57 #[.agg #[.string x.f0, .int .i64 x.f1, .bool x.f2, .bool x.f3, .int .i64 x.f4, .int .i64 x.f5, .slice A6 x.f6.length c6, .int .i64 x.f7.f0, .bool x.f7.f1, .int .i64 x.f7.f2, .string x.f7.f3, .slice A11 x.f7.f4.length c11, .slice A12 x.f7.f5.length c12], .map (some bm)] w fun e w' => e = .returned (.int .i64 r) ∧ Below w.heap.size w w' := by
 have hu44 := Tryz.underlying44
 have hu25 := Tryz.underlying25
 have H6 := Aside0.mk h6
 have H7 := Aside0.mk h7
 have HM := Aside0.mk hm
 have HQ := Aside0.mk (tm_q1 x.f0 hs)
 have HP := Aside0.mk (Bs.nil w)
 generalize hsn : (Mp.look m x.f0).getD false = seen at h
 have HSN := Aside0.mk hsn
 unfold fF at h
 obtain ⟨⟨l, ok⟩, hst, h⟩ := Option.bind_eq_some_iff.1 h
 have HST := Aside0.mk hst
 clear h6 h7 hm hsn hst hs
 go_enter Tryz.func57, Tryz.ntmps57
 go_upto_region 1 with (((with_reducible refine gate_dst (N := 2) rfl ?_); refine box_event ?hg (N := 2) ?hd (cs := #[.string x.f0, .int .i64 x.f1, .bool x.f2, .bool x.f3, .int .i64 x.f4, .int .i64 x.f5, .slice A6 x.f6.length c6, .int .i64 x.f7.f0, .bool x.f7.f1, .int .i64 x.f7.f2, .string x.f7.f3, .slice A11 x.f7.f4.length c11, .slice A12 x.f7.f5.length c12]) (t := 44) ?hr ?_; (case hd => rfl); (case hg => rfl); (case hr => first | (go_simp; done) | (go_simp; rfl)); intro bf hg_ W1 hbox hb; have n0 := Aside0.mk (HP.out.new hg_ hbox hb); clear HP; have HP := n0; clear n0; clear hg_ hbox hb))
 have yf0 : W1.cell? ⟨bf, 0, none⟩ = some (.string x.f0) := HP.out.cl 0 0 rfl rfl
 cases ok with
 | false =>
  rw [if_neg (fun h_ => by cases h_)] at h
  injection h with h
  subst h
  go_wp2_with (go_at_call 19; refine (steps_calls k x.f0 true l _ _ HST.out).mono ?_; rintro e w6 ⟨A1, k1, rfl, hC, hlk, hb⟩; have HL := Aside0.mk hC; have HLK := Aside0.mk hlk; have n0 := Aside0.mk (HP.out.below hb); clear HP; have HP := n0; clear n0; clear hb hC hlk)
  go_ret
  exact ⟨rfl, HP.out.B⟩
 | true =>
  rw [if_pos rfl] at h
  dsimp only at h
  by_cases c1 : l.length = 0
  case pos =>
   rw [if_pos c1] at h
   injection h with h
   subst h
   have e1 : ((l.length : Int) == 0) = true := beq_iff_eq.2 (by omega)
   have e2 : ((l.length : Int) != 0) = false := bne_eq_false_iff_eq.2 (by omega)
   go_wp2_with (go_at_call 19; refine (steps_calls k x.f0 true l _ _ HST.out).mono ?_; rintro e w6 ⟨A1, k1, rfl, hC, hlk, hb⟩; have HL := Aside0.mk hC; have HLK := Aside0.mk hlk; have n0 := Aside0.mk (HP.out.below hb); clear HP; have HP := n0; clear n0; clear hb hC hlk)
   go_ret
   exact ⟨rfl, HP.out.B⟩
  rw [if_neg c1] at h
  have e1 : ((l.length : Int) == 0) = false := beq_eq_false_iff_ne.2 (by omega)
  have e2 : ((l.length : Int) != 0) = true := bne_iff_ne.2 (by omega)
  go_upto_region 4 with (go_at_call 19; refine (steps_calls k x.f0 true l _ _ HST.out).mono ?_; rintro e w6 ⟨A1, k1, rfl, hC, hlk, hb⟩; have HL := Aside0.mk hC; have HLK := Aside0.mk hlk; have n0 := Aside0.mk (HP.out.below hb); clear HP; have HP := n0; clear n0; clear hb hC hlk; have yf0 : w6.cell? ⟨bf, 0, none⟩ = some (.string x.f0) := HP.out.cl 0 0 rfl rfl)
  clear e1 e2 c1
  obtain ⟨qq, hqq⟩ := HQ.out
  have HQQ := Aside0.mk hqq
  clear hqq
  cases seen with
  | true =>
   rw [if_pos rfl] at h
   injection h with h
   subst h
   go_wp2_with (at_lookup; refine Mp.wp_look rfl _ _ false rfl tm_k1 Tryz.underlying109 (tm_z4 _) E1_inj rfl (HM.out.below HP.out.B) x.f0 qq rfl HQQ.out ?_; simp only [Bool.false_eq_true, if_false, lk_bool, HSN.out])
   go_ret
   exact ⟨rfl, HP.out.B⟩
  | false =>
   rw [if_neg (fun h_ => by cases h_)] at h
   go_upto_region 6 with (at_lookup; refine Mp.wp_look rfl _ _ false rfl tm_k1 Tryz.underlying109 (tm_z4 _) E1_inj rfl (HM.out.below HP.out.B) x.f0 qq rfl HQQ.out ?_; simp only [Bool.false_eq_true, if_false, lk_bool, HSN.out])
   clear yf0
   rw [fF2] at h
   have H := Aside0.mk h
   clear h
   have yf1 : w6.cell? ⟨bf, 1, none⟩ = some (.int .i64 x.f1) := HP.out.cl 0 1 rfl rfl
   go_cut [29] (fun v wc => v = .bool (ft29 x) ∧ Aside0 (wc = w6))
   case first =>
    by_cases a1 : x.f1 = -1
    case pos =>
     have a1a : (x.f1 == -1) = true := beq_iff_eq.2 a1
     have a1b : (x.f1 != -1) = false := bne_eq_false_iff_eq.2 a1
     clear a1
     go_wp2_with fail
     go_meet
     case rel => exact ⟨by (first | rfl | (simp only [ft29]; simp [*])), ⟨rfl⟩⟩
    case neg =>
     have a1a : (x.f1 == -1) = false := beq_eq_false_iff_ne.2 a1
     have a1b : (x.f1 != -1) = true := bne_iff_ne.2 a1
     clear a1
     by_cases a2 : x.f1 < 0
     case pos =>
      have a2a : decide (x.f1 < 0) = true := decide_eq_true a2
      go_wp2_with fail
      go_meet
      case rel => exact ⟨by (first | rfl | (simp only [ft29]; simp [*])), ⟨rfl⟩⟩
     case neg =>
      have a2a : decide (x.f1 < 0) = false := decide_eq_false a2
      by_cases a3 : 6 < x.f1
      case pos =>
       have a3a : decide (6 < x.f1) = true := decide_eq_true a3
       go_wp2_with fail
       go_meet
       case rel => exact ⟨by (first | rfl | (simp only [ft29]; simp [*])), ⟨rfl⟩⟩
      case neg =>
       have a3a : decide (6 < x.f1) = false := decide_eq_false a3
       go_wp2_with fail
       go_meet
       case rel => exact ⟨by (first | rfl | (simp only [ft29]; simp [*])), ⟨rfl⟩⟩
   case rest =>
    obtain ⟨rfl, HW⟩ := hcut
    have hw_ := HW.out.symm
    subst hw_
    clear yf1
    have H1 := H.out
    clear H
    cases hb_ : ft29 x with
    | true =>
     rw [if_pos hb_] at H1
     injection H1 with H1
     subst H1
     go_wp2_with fail
     go_ret
     exact ⟨rfl, HP.out.B⟩
    | false =>
     rw [if_neg (by rw [hb_]; decide)] at H1
     have H := Aside0.mk H1
     clear H1 hb_
     have yf3 : w6.cell? ⟨bf, 3, none⟩ = some (.bool x.f3) := HP.out.cl 0 3 rfl rfl
     have yf4 : w6.cell? ⟨bf, 4, none⟩ = some (.int .i64 x.f4) := HP.out.cl 0 4 rfl rfl
     have yf5 : w6.cell? ⟨bf, 5, none⟩ = some (.int .i64 x.f5) := HP.out.cl 0 5 rfl rfl
     go_upto_region 8 with (fail)
     go_cut [43] (fun v wc => v = .bool (ft43 x) ∧ Aside0 (wc = w6))
     case first =>
      rcases Bool.eq_false_or_eq_true x.f3 with b3 | b3
      case inl =>
       rw [b3] at yf3
       replace b3 := Aside0.mk b3
       go_wp2_with fail
       go_meet
       case rel => exact ⟨by (first | rfl | (simp only [ft43]; simp [b3.out, *])), ⟨rfl⟩⟩
      case inr =>
       rw [b3] at yf3
       replace b3 := Aside0.mk b3
       by_cases a4 : x.f4 = 0
       case pos =>
        have a4a : (x.f4 == 0) = true := beq_iff_eq.2 a4
        have a4b : (x.f4 != 0) = false := bne_eq_false_iff_eq.2 a4
        clear a4
        by_cases a5 : x.f5 = 0
        case pos =>
         have a5a : (x.f5 == 0) = true := beq_iff_eq.2 a5
         have a5b : (x.f5 != 0) = false := bne_eq_false_iff_eq.2 a5
         clear a5
         go_wp2_with fail
         go_meet
         case rel => exact ⟨by (first | rfl | (simp only [ft43]; simp [b3.out, *])), ⟨rfl⟩⟩
        case neg =>
         have a5a : (x.f5 == 0) = false := beq_eq_false_iff_ne.2 a5
         have a5b : (x.f5 != 0) = true := bne_iff_ne.2 a5
         clear a5
         go_wp2_with fail
         go_meet
         case rel => exact ⟨by (first | rfl | (simp only [ft43]; simp [b3.out, *])), ⟨rfl⟩⟩
       case neg =>
        have a4a : (x.f4 == 0) = false := beq_eq_false_iff_ne.2 a4
        have a4b : (x.f4 != 0) = true := bne_iff_ne.2 a4
        clear a4
        go_wp2_with fail
        go_meet
        case rel => exact ⟨by (first | rfl | (simp only [ft43]; simp [b3.out, *])), ⟨rfl⟩⟩
     case rest =>
      obtain ⟨rfl, HW⟩ := hcut
      have hw_ := HW.out.symm
      subst hw_
      clear yf3 yf4 yf5
      have H1 := H.out
      clear H
      cases hb_ : ft43 x with
      | true =>
       rw [if_pos hb_] at H1
       injection H1 with H1
       subst H1
       go_wp2_with fail
       go_ret
       exact ⟨rfl, HP.out.B⟩
      | false =>
       rw [if_neg (by rw [hb_]; decide)] at H1
       have H := Aside0.mk H1
       clear H1 hb_
       have yf4 : w6.cell? ⟨bf, 4, none⟩ = some (.int .i64 x.f4) := HP.out.cl 0 4 rfl rfl
       have yf5 : w6.cell? ⟨bf, 5, none⟩ = some (.int .i64 x.f5) := HP.out.cl 0 5 rfl rfl
       have H1 := H.out
       clear H
       by_cases c5 : x.f5 < x.f4
       case pos =>
        rw [if_pos c5] at H1
        injection H1 with H1
        subst H1
        have e1 : decide (x.f5 < x.f4) = true := decide_eq_true c5
        have e2 : decide (x.f4 > x.f5) = true := decide_eq_true c5
        go_wp2_with fail
        go_ret
        exact ⟨rfl, HP.out.B⟩
       rw [if_neg c5] at H1
       have e1 : decide (x.f5 < x.f4) = false := decide_eq_false c5
       have e2 : decide (x.f4 > x.f5) = false := decide_eq_false c5
       have H := Aside0.mk H1
       clear H1
       go_upto_region 12 with (fail)
       clear yf4 yf5 e1 e2 c5
       have yf1 : w6.cell? ⟨bf, 1, none⟩ = some (.int .i64 x.f1) := HP.out.cl 0 1 rfl rfl
       have yf6 : w6.cell? ⟨bf, 6, none⟩ = some (.slice A6 x.f6.length c6) := HP.out.cl 0 6 rfl rfl
       go_cut [63] (fun v wc => v = .bool (ft63 x) ∧ Aside0 (wc = w6))
       case first =>
        by_cases a6 : 0 < x.f6.length
        case pos =>
         have a6a : decide (0 < x.f6.length) = true := decide_eq_true a6
         have a6b : decide ((0 : Int) < (x.f6.length : Int)) = true := decide_eq_true (by omega)
         have a6c : decide ((x.f6.length : Int) > 0) = true := decide_eq_true (by omega)
         by_cases a1 : x.f1 = 3
         case pos =>
          have a1a : (x.f1 == 3) = true := beq_iff_eq.2 a1
          have a1b : (x.f1 != 3) = false := bne_eq_false_iff_eq.2 a1
          clear a1
          go_wp2_with fail
          go_meet
          case rel => exact ⟨by (first | rfl | (simp only [ft63]; simp [*])), ⟨rfl⟩⟩
         case neg =>
          have a1a : (x.f1 == 3) = false := beq_eq_false_iff_ne.2 a1
          have a1b : (x.f1 != 3) = true := bne_iff_ne.2 a1
          clear a1
          go_wp2_with fail
          go_meet
          case rel => exact ⟨by (first | rfl | (simp only [ft63]; simp [*])), ⟨rfl⟩⟩
        case neg =>
         have a6a : decide (0 < x.f6.length) = false := decide_eq_false a6
         have a6b : decide ((0 : Int) < (x.f6.length : Int)) = false := decide_eq_false (by omega)
         have a6c : decide ((x.f6.length : Int) > 0) = false := decide_eq_false (by omega)
         clear a6
         go_wp2_with fail
         go_meet
         case rel => exact ⟨by (first | rfl | (simp only [ft63]; simp [*])), ⟨rfl⟩⟩
       case rest =>
        obtain ⟨rfl, HW⟩ := hcut
        have hw_ := HW.out.symm
        subst hw_
        clear yf6 yf1
        have H1 := H.out
        clear H
        cases hb_ : ft63 x with
        | true =>
         rw [if_pos hb_] at H1
         injection H1 with H1
         subst H1
         go_wp2_with fail
         go_ret
         exact ⟨rfl, HP.out.B⟩
        | false =>
         rw [if_neg (by rw [hb_]; decide)] at H1
         have H := Aside0.mk H1
         clear H1 hb_
         have H1 := H.out
         clear H
         have HX := Aside0.mk H1
         clear H1
         have yf6 : w6.cell? ⟨bf, 6, none⟩ = some (.slice A6 x.f6.length c6) := HP.out.cl 0 6 rfl rfl
         have HMX := Aside0.mk H6.out.2.1
         go_wp2_with fail
         go_loopg [76] x.f6.length (fun kq v76 w' => ∃ (ii : Int) (i : Nat), v76 = .int .i64 ii ∧ Aside0 (ii = (i : Int)) ∧ Aside0 (i + kq = x.f6.length) ∧ Aside0 ((oneF k x.f6 kq i).bind (fun e => if e = 0 then (Fck k x.f7).bind fun e => fF3 k x l e else some e) = some r) ∧ Aside0 (Bs w w' [(bf, #[.string x.f0, .int .i64 x.f1, .bool x.f2, .bool x.f3, .int .i64 x.f4, .int .i64 x.f5, .slice A6 x.f6.length c6, .int .i64 x.f7.f0, .bool x.f7.f1, .int .i64 x.f7.f2, .string x.f7.f3, .slice A11 x.f7.f4.length c11, .slice A12 x.f7.f5.length c12], 44)]) ∧ Aside0 (Kd.C k95 w' A1 l.length l))
         case atStart => exact ⟨0, 0, rfl, ⟨rfl⟩, ⟨by omega⟩, HX, HP, HL⟩
         case round =>
          clear HP HX yf6 HL
          obtain ⟨ii, i, rfl, HII, HI, HX, HP, HL⟩ := hrel
          cases gk with
          | succ k1 =>
           have p0 : 0 ≤ ii := by have := HII.out; omega
           have p1 : ii < (x.f6.length : Int) := by have := HII.out; have := HI.out; omega
           have q0 : decide (ii < (x.f6.length : Int)) = true := decide_eq_true p1
           have q1 : decide (0 ≤ ii) = true := decide_eq_true p0
           obtain ⟨ad, e_, x0⟩ := Kd.at_string (Kd.C_below H6.out HP.out.B) ii p0 p1
           cases e_
           have H1 := HX.out
           clear HX
           rw [oneF, ← HII.out] at H1
           generalize rdOf ByteArray.empty x.f6 ii = s at x0 H1
           obtain ⟨e0, H1, H2⟩ := Option.bind_eq_some_iff.1 H1
           replace p0 := eq_true p0
           replace p1 := eq_true p1
           by_cases c7 : 5000 < s.size
           case pos =>
            rw [if_pos c7] at H1
            injection H1 with H1
            subst H1
            rw [if_neg (by decide)] at H2
            injection H2 with H2
            subst H2
            have e1 : decide ((5000 : Int) < (s.size : Int)) = true := decide_eq_true (by omega)
            have e2 : decide ((s.size : Int) > 5000) = true := decide_eq_true (by omega)
            have e3 : decide (5000 < s.size) = true := decide_eq_true c7
            go_wp2_with fail
            go_ret
            exact ⟨rfl, HP.out.B⟩
           rw [if_neg c7] at H1
           obtain ⟨bb, hbb, H1⟩ := Option.bind_eq_some_iff.1 H1
           have HBB := Aside0.mk hbb
           clear hbb
           have e1 : decide ((5000 : Int) < (s.size : Int)) = false := decide_eq_false (by omega)
           have e2 : decide ((s.size : Int) > 5000) = false := decide_eq_false (by omega)
           have e3 : decide (5000 < s.size) = false := decide_eq_false c7
           have BAD : True := trivial
           cases bb with
           | true =>
            rw [if_pos rfl] at H1
            injection H1 with H1
            subst H1
            rw [if_neg (by decide)] at H2
            injection H2 with H2
            subst H2
            go_wp2_with (go_at_call 77; refine (conf_badBytes.calls k s _ _ HBB.out).mono ?_; rintro e w7 ⟨rfl, hd⟩; have hb := hd.below; have n0 := Aside0.mk (HP.out.below hb); have n1 := Aside0.mk (Kd.C_below HL.out hb); clear HP HL; have HP := n0; have HL := n1; clear n0 n1; clear hb hd)
            go_ret
            exact ⟨rfl, HP.out.B⟩
           | false =>
            rw [if_neg (by decide)] at H1
            go_wp2_with (go_at_call 77; refine (conf_badBytes.calls k s _ _ HBB.out).mono ?_; rintro e w7 ⟨rfl, hd⟩; have hb := hd.below; have n0 := Aside0.mk (HP.out.below hb); have n1 := Aside0.mk (Kd.C_below HL.out hb); clear HP HL; have HP := n0; have HL := n1; clear n0 n1; clear hb hd)
            go_roundg k1
            case measure => omega
            case rel => exact ⟨_, i + 1, rfl, ⟨by have h1_ := HMX.out; have h2_ := HII.out; have h3_ := HI.out; unfold wrap64; omega⟩, ⟨by have := HI.out; omega⟩, ⟨Option.bind_eq_some_iff.2 ⟨e0, H1, H2⟩⟩, HP, HL⟩
          | zero =>
           have e0 : decide (ii < (x.f6.length : Int)) = false := decide_eq_false (by have := HII.out; have := HI.out; omega)
           have H1 := HX.out
           rw [oneF, Option.bind_some, if_pos rfl] at H1
           obtain ⟨e1, hck, H1⟩ := Option.bind_eq_some_iff.1 H1
           have HC := Aside0.mk hck
           clear hck HX
           have yf7 : wr.cell? ⟨bf, 7, none⟩ = some (.int .i64 x.f7.f0) := HP.out.cl 0 7 rfl rfl
           have yf8 : wr.cell? ⟨bf, 8, none⟩ = some (.bool x.f7.f1) := HP.out.cl 0 8 rfl rfl
           have yf9 : wr.cell? ⟨bf, 9, none⟩ = some (.int .i64 x.f7.f2) := HP.out.cl 0 9 rfl rfl
           have yf10 : wr.cell? ⟨bf, 10, none⟩ = some (.string x.f7.f3) := HP.out.cl 0 10 rfl rfl
           have yf11 : wr.cell? ⟨bf, 11, none⟩ = some (.slice A11 x.f7.f4.length c11) := HP.out.cl 0 11 rfl rfl
           have yf12 : wr.cell? ⟨bf, 12, none⟩ = some (.slice A12 x.f7.f5.length c12) := HP.out.cl 0 12 rfl rfl
           by_cases c8 : e1 = 0
           case neg =>
            rw [fF3, if_neg c8] at H1
            injection H1 with H1
            subst H1
            have e8a : (e1 == 0) = false := beq_eq_false_iff_ne.2 c8
            have e8b : (e1 != 0) = true := bne_iff_ne.2 c8
            go_wp2_with (go_at_call 18; refine (check_calls k x.f7 A11 c11 A12 c12 e1 _ (H7.out.below HP.out.B) HC.out).mono ?_; rintro e w8 ⟨rfl, hb⟩; have n0 := Aside0.mk (HP.out.below hb); clear HP; have HP := n0; clear n0; have n1 := Aside0.mk (Kd.C_below HL.out hb); clear HL hb; have HL := n1; clear n1)
            go_ret
            exact ⟨rfl, HP.out.B⟩
           have e8a : (e1 == 0) = true := beq_iff_eq.2 c8
           have e8b : (e1 != 0) = false := bne_eq_false_iff_eq.2 c8
           rw [fF3, if_pos c8] at H1
           have H := Aside0.mk H1
           clear H1
           go_upto_region 25 with (go_at_call 18; refine (check_calls k x.f7 A11 c11 A12 c12 e1 _ (H7.out.below HP.out.B) HC.out).mono ?_; rintro e w8 ⟨rfl, hb⟩; have n0 := Aside0.mk (HP.out.below hb); clear HP; have HP := n0; clear n0; have n1 := Aside0.mk (Kd.C_below HL.out hb); clear HL hb; have HL := n1; clear n1)
           clear e8a e8b c8 yf7 yf8 yf9 yf10 yf11 yf12
           have yf1 : w8.cell? ⟨bf, 1, none⟩ = some (.int .i64 x.f1) := HP.out.cl 0 1 rfl rfl
           have yf7 : w8.cell? ⟨bf, 7, none⟩ = some (.int .i64 x.f7.f0) := HP.out.cl 0 7 rfl rfl
           go_cut [108] (fun v wc => v = .bool (ft108 x) ∧ Aside0 (wc = w8))
           case first =>
            by_cases a7 : x.f7.f0 = 0
            case pos =>
             have a7a : (x.f7.f0 == 0) = true := beq_iff_eq.2 a7
             have a7b : (x.f7.f0 != 0) = false := bne_eq_false_iff_eq.2 a7
             clear a7
             go_wp2_with fail
             go_meet
             case rel => exact ⟨by (first | rfl | (simp only [ft108]; simp [*])), ⟨rfl⟩⟩
            case neg =>
             have a7a : (x.f7.f0 == 0) = false := beq_eq_false_iff_ne.2 a7
             have a7b : (x.f7.f0 != 0) = true := bne_iff_ne.2 a7
             clear a7
             by_cases a1 : x.f1 = -1
             case pos =>
              have a1a : (x.f1 == -1) = true := beq_iff_eq.2 a1
              have a1b : (x.f1 != -1) = false := bne_eq_false_iff_eq.2 a1
              clear a1
              go_wp2_with fail
              go_meet
              case rel => exact ⟨by (first | rfl | (simp only [ft108]; simp [*])), ⟨rfl⟩⟩
             case neg =>
              have a1a : (x.f1 == -1) = false := beq_eq_false_iff_ne.2 a1
              have a1b : (x.f1 != -1) = true := bne_iff_ne.2 a1
              clear a1
              by_cases a9 : x.f7.f0 = x.f1
              case pos =>
               have a9a : (x.f7.f0 == x.f1) = true := beq_iff_eq.2 a9
               have a9b : (x.f7.f0 != x.f1) = false := bne_eq_false_iff_eq.2 a9
               clear a9
               go_wp2_with fail
               go_meet
               case rel => exact ⟨by (first | rfl | (simp only [ft108]; simp [*])), ⟨rfl⟩⟩
              case neg =>
               have a9a : (x.f7.f0 == x.f1) = false := beq_eq_false_iff_ne.2 a9
               have a9b : (x.f7.f0 != x.f1) = true := bne_iff_ne.2 a9
               clear a9
               go_wp2_with fail
               go_meet
               case rel => exact ⟨by (first | rfl | (simp only [ft108]; simp [*])), ⟨rfl⟩⟩
           case rest =>
            obtain ⟨rfl, HW⟩ := hcut
            have hw_ := HW.out.symm
            subst hw_
            clear yf7 yf1
            have H1 := H.out
            clear H
            cases hb_ : ft108 x with
            | true =>
             rw [if_pos hb_] at H1
             injection H1 with H1
             subst H1
             go_wp2_with fail
             go_ret
             exact ⟨rfl, HP.out.B⟩
            | false =>
             rw [if_neg (by rw [hb_]; decide)] at H1
             have H := Aside0.mk H1
             clear H1 hb_
             have yf7 : w8.cell? ⟨bf, 7, none⟩ = some (.int .i64 x.f7.f0) := HP.out.cl 0 7 rfl rfl
             have H1 := H.out
             clear H
             by_cases c9 : x.f7.f0 = 0
             case pos =>
              have c9a : (x.f7.f0 == 0) = true := beq_iff_eq.2 c9
              have c9b : (x.f7.f0 != 0) = false := bne_eq_false_iff_eq.2 c9
              rw [if_pos c9] at H1
              injection H1 with H1
              subst H1
              go_wp2_with fail
              go_ret
              exact ⟨rfl, HP.out.B⟩
             have c9a : (x.f7.f0 == 0) = false := beq_eq_false_iff_ne.2 c9
             have c9b : (x.f7.f0 != 0) = true := bne_iff_ne.2 c9
             rw [if_neg c9] at H1
             obtain ⟨b, hst2, H1⟩ := Option.bind_eq_some_iff.1 H1
             have HS2 := Aside0.mk hst2
             clear hst2
             cases b with
             | true =>
              rw [if_pos rfl] at H1
              injection H1 with H1
              subst H1
              go_wp2_with (go_at_call 78; refine (conf_hasStar.calls k A1 k1 l _ _ HL.out HLK.out HS2.out).mono ?_; rintro e w9 ⟨rfl, hb⟩; have n0 := Aside0.mk (HP.out.below hb); clear HP; have HP := n0; clear n0; clear hb)
              go_ret
              exact ⟨rfl, HP.out.B⟩
             | false =>
              rw [if_neg (by decide)] at H1
              injection H1 with H1
              subst H1
              go_wp2_with (go_at_call 78; refine (conf_hasStar.calls k A1 k1 l _ _ HL.out HLK.out HS2.out).mono ?_; rintro e w9 ⟨rfl, hb⟩; have n0 := Aside0.mk (HP.out.below hb); clear HP; have HP := n0; clear n0; clear hb)
              go_ret
              exact ⟨rfl, HP.out.B⟩
end Go.Proofs.YtlofkjdcapbohaaGreatDoor.PConfKeeps
