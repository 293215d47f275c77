/- For TopServed: Serve without redirects, walked. No condition. -/
import Derived.Test.YtbldjamcnohfjaaDoorSvE
import Derived.Test.YtbldjamcnohfjaaDoorSvF
import Derived.Test.YtbldjamcnohfjaaDoorSvB
namespace Go.Proofs.YtbldjamcnohfjaaDoor.PTopServed
open Go.RowKit Go.Proofs.YtbldjamcnohfjaaDoorW.PrintWords Go.Proofs.YtbldjamcnohfjaaDoorW.PrintLast Go.Proofs.YtbldjamcnohfjaaDoorW.PrintMore
set_option linter.unusedVariables false
set_option linter.unusedSimpArgs false
structure RpAt (w : World) (u0 u1 u2 : Value) (W : World) : Prop where
  Q : W.heap[w.heap.size]? = some (.cells #[u0, u1, u2] 37 (0, 0))
  B : Below w.heap.size w W
theorem RpAt.below {w W W1 : World} {u0 u1 u2 : Value} (h : RpAt w u0 u1 u2 W) (hb : Below W.heap.size W W1) : RpAt w u0 u1 u2 W1 := ⟨blk_below h.Q hb, below_step h.B hb⟩
theorem RpAt.drewN {w W : World} {u0 u1 u2 : Value} (h : RpAt w u0 u1 u2 W) (n : Nat) : RpAt w u0 u1 u2 (W.drewN n) := h.below (pw_below_drewN (Below.refl _ _) n)
theorem RpAt.alloc {w W : World} {u0 u1 u2 : Value} (h : RpAt w u0 u1 u2 W) (o : Obj) : RpAt w u0 u1 u2 (W.alloc o) := h.below (below_alloc (Below.refl _ _) o)
theorem RpAt.store3 {w W : World} {u0 u1 u2 : Value} (h : RpAt w u0 u1 u2 W) (v0 v1 v2 : Value) : RpAt w v0 v1 v2 (((W.setCell ⟨w.heap.size, 0, none⟩ v0).setCell ⟨w.heap.size, 1, none⟩ v1).setCell ⟨w.heap.size, 2, none⟩ v2) := by
  have h0 := blk_put (cs' := #[v0, u1, u2]) h.Q 0 v0 rfl
  have h1 := blk_put (cs' := #[v0, v1, u2]) h0 1 v1 rfl
  have h2 := blk_put (cs' := #[v0, v1, v2]) h1 2 v2 rfl
  exact ⟨h2, below_set (below_set (below_set h.B (Nat.le_refl _)) (Nat.le_refl _)) (Nat.le_refl _)⟩
theorem drawn_below {w w' : World} (h : Drawn0 w w') : Below w.heap.size w w' := by
  obtain ⟨n, rfl⟩ := h
  exact pw_below_drewN (Below.refl _ _) n
def idx : ByteArray := ⟨#[105, 110, 100, 101, 120, 46, 104, 116, 109, 108]⟩
/-- what is known of a request that is an address: where it leads, and that nothing is cut off or decoded -/
structure Req (k : Nat) (a p : ByteArray) : Prop where
  pre : strings_HasPrefix.f a (⟨#[47]⟩ : ByteArray) = some true
  c1 : ∃ r, ship_cutAt.f a 35 = some (a, r)
  c2 : ∃ r, ship_cutAt.f a 63 = some (a, r)
  no : ∀ i : Nat, i < a.size → bt a (i : Int) ≠ 37
  path : ship_Path.f k a = some (p, 0)
  suf : ∃ b, strings_HasSuffix.f a (⟨#[47]⟩ : ByteArray) = some b
  key : ∃ kk kb, ship_key.f k a = some (kk, kb) ∧ kk.size ≤ maxLen
  ps : p.size ≤ 1000
  sz : a.size ≤ 1000
/-- what Serve answers -/
def Answers (l : List S30) (a p : ByteArray) (code : Int) (path body : ByteArray) (e0 : Int) : Prop :=
  a.size ≤ 200 → ∃ i : Nat, IsCut l.length (geb l p) i ∧ (fnd l p i = true → e0 = 0 ∧ code = 200 ∧ path = p ∧ body = (rd_T30 l i).f1)
def Sorted (l : List S30) : Prop := ∀ (name : ByteArray) (a b : Nat), a ≤ b → b < l.length → geb l name a = true → geb l name b = true
theorem Sorted.at {l : List S30} (h : Sorted l) (name : ByteArray) : ∀ a b, a ≤ b → b < l.length → geb l name a = true → geb l name b = true := h name
set_option maxHeartbeats 3000000 in
set_option maxRecDepth 100000 in
theorem serve_calls (k : Nat) (A : Option Addr) (c : Nat) (l : List S30) (a p : ByteArray) (w : World) (ad tr : Nat → ByteArray) (hr : Kd.C k30 w A l.length l) (hc : l.length ≤ c) (hlen : l.length ≤ 1000000000000) (h : ship_CheckOuts.f k l = some 0) (ha : Ads k l ad tr) (hq : Req k a p) (hs : Sorted l) :
    Calls Tryd.prog 10 #[.slice A l.length c, .slice none 0 0, .string a] w fun e w' => ∃ (code : Int) (path body : ByteArray) (e0 : Int), e = .returned (.tuple #[.agg #[.int .i64 code, .string path, .string body], .int .i64 e0]) ∧ Below w.heap.size w w' ∧ Answers l a p code path body e0 := by
  have HR := Aside0.mk hr
  have HC := Aside0.mk hc
  have H := Aside0.mk h
  have HA := Aside0.mk ha
  have HQ := Aside0.mk hq
  have HS := Aside0.mk hs
  clear hr hc h ha hq hs
  have hu30 := Tryd.underlying30
  have hu37 := Tryd.underlying37
  have hsz := HQ.out.sz
  have hps := HQ.out.ps
  obtain ⟨r1, hc1⟩ := HQ.out.c1
  obtain ⟨r2, hc2⟩ := HQ.out.c2
  obtain ⟨sb, hsb⟩ := HQ.out.suf
  obtain ⟨kk, kb, hkk, hkz⟩ := HQ.out.key
  have C1 := Aside0.mk hc1
  have C2 := Aside0.mk hc2
  have SB := Aside0.mk hsb
  have KK := Aside0.mk hkk
  have KZ := Aside0.mk hkz
  clear hc1 hc2 hsb hkk hkz
  go_enter Tryd.func10, Tryd.ntmps10
  go_upto_region 1 with (fail)
  have HP := Aside0.mk (show RpAt w (.int .i64 0) (.string ⟨#[]⟩) (.string ⟨#[]⟩) (w.alloc (.cells #[.int .i64 0, .string ⟨#[]⟩, .string ⟨#[]⟩] 37)) from ⟨blk_new _ _, below_alloc (Below.refl _ _) _⟩)
  generalize w.alloc (.cells #[.int .i64 0, .string ⟨#[]⟩, .string ⟨#[]⟩] 37) = W1 at HP ⊢
  go_upto_region 2 with (go_at_call 19; refine (redirected_nil k A c l W1 ad tr (Kd.C_below HR.out HP.out.B) HC.out hlen H.out HA.out).mono ?_; rintro e W2 ⟨b, rfl, hm⟩; have HM := Aside0.mk hm.M; have n1 := Aside0.mk (HP.out.below hm.B); clear HP hm; have HP := n1; clear n1)
  by_cases hbig : (a.size : Int) > 200
  · have e1 : decide ((a.size : Int) > 200) = true := decide_eq_true hbig
    have e2 : decide (200 < (a.size : Int)) = true := decide_eq_true hbig
    have e3 : decide (200 < a.size) = true := decide_eq_true (by omega)
    go_upto_region 5 with (go_at_call 20; refine (strings_HasPrefix.calls a _ true _ HQ.out.pre).mono ?_; rintro e w' ⟨rfl, hd⟩; have hb := drawn_below hd; clear hd; have n2 := Aside0.mk (HM.out.below (hb)); clear HM; have HM := n2; clear n2; have n1 := Aside0.mk (HP.out.below hb); clear HP; have HP := n1; clear n1; clear hb)
    have cz0 : World.cell? _ ⟨w.heap.size, 0, none⟩ = some (Value.int .i64 0) := (blk_cell HP.out.Q 0).trans rfl
    have cz1 : World.cell? _ ⟨w.heap.size, 1, none⟩ = some (Value.string (⟨#[]⟩ : ByteArray)) := (blk_cell HP.out.Q 1).trans rfl
    have cz2 : World.cell? _ ⟨w.heap.size, 2, none⟩ = some (Value.string (⟨#[]⟩ : ByteArray)) := (blk_cell HP.out.Q 2).trans rfl
    have fz0 := blk_frozen HP.out.Q 0
    have fz1 := blk_frozen HP.out.Q 1
    have fz2 := blk_frozen HP.out.Q 2
    go_wp2_with fail
    have HE := Aside0.mk (HP.out.store3 (.int .i64 0) (.string (⟨#[]⟩ : ByteArray)) (.string (⟨#[]⟩ : ByteArray)))
    refine bodyPost_ret (results_ct rfl _ _ w.heap.size 37 #[.int .i64 0, .string (⟨#[]⟩ : ByteArray), .string (⟨#[]⟩ : ByteArray)] (0, 0) _ rfl (by exact HE.out.Q) Tryd.underlying37 rfl (by kernel_rfl)) rfl ?_
    exact ⟨_, _, _, _, rfl, HE.out.B, (fun hh => by omega)⟩
  have e1 : decide ((a.size : Int) > 200) = false := decide_eq_false hbig
  have e2 : decide (200 < (a.size : Int)) = false := decide_eq_false hbig
  have e3 : decide (200 < a.size) = false := decide_eq_false (by omega)
  go_upto_region 7 with (first | (go_at_call 20; refine (strings_HasPrefix.calls a _ true _ HQ.out.pre).mono ?_; rintro e w' ⟨rfl, hd⟩; have hb := drawn_below hd; clear hd; have n2 := Aside0.mk (HM.out.below (hb)); clear HM; have HM := n2; clear n2; have n1 := Aside0.mk (HP.out.below hb); clear HP; have HP := n1; clear n1; clear hb) | (go_at_call 21; refine (ship_cutAt.calls a 35 a r1 _ C1.out).mono ?_; rintro e w' ⟨rfl, hd⟩; have hb := drawn_below hd; clear hd; have n2 := Aside0.mk (HM.out.below (hb)); clear HM; have HM := n2; clear n2; have n1 := Aside0.mk (HP.out.below hb); clear HP; have HP := n1; clear n1; clear hb))
  go_upto_region 8 with (go_at_call 21; refine (ship_cutAt.calls a 63 a r2 _ C2.out).mono ?_; rintro e w' ⟨rfl, hd⟩; have hb := drawn_below hd; clear hd; have n2 := Aside0.mk (HM.out.below (hb)); clear HM; have HM := n2; clear n2; have n1 := Aside0.mk (HP.out.below hb); clear HP; have HP := n1; clear n1; clear hb)
  go_upto_region 9 with (go_at_call 22; refine (decoded_calls a _ (by omega) HQ.out.no).mono ?_; rintro e W3 ⟨rfl, hb⟩; have n2 := Aside0.mk (HM.out.below (hb)); clear HM; have HM := n2; clear n2; have n1 := Aside0.mk (HP.out.below hb); clear HP; have HP := n1; clear n1; clear hb)
  go_upto_region 10 with (fail)
  have HN := Aside0.mk (blk_new W3 (.cells #[.int .i64 404, .string ⟨#[]⟩, .string ⟨#[]⟩] 37))
  have n1 := Aside0.mk (HP.out.alloc (.cells #[.int .i64 404, .string ⟨#[]⟩, .string ⟨#[]⟩] 37))
  have n2 := Aside0.mk (HM.out.below (below_alloc (Below.refl _ _) (.cells #[.int .i64 404, .string ⟨#[]⟩, .string ⟨#[]⟩] 37)))
  clear HP HM
  have HP := n1
  have HM := n2
  clear n1 n2
  generalize W3.alloc (.cells #[.int .i64 404, .string ⟨#[]⟩, .string ⟨#[]⟩] 37) = W4 at HP HM HN ⊢
  generalize W3.heap.size = gn at HN ⊢
  go_upto_region 14 with (first | (go_at_call 23; refine (ship_Path.calls k a p 0 _ HQ.out.path).mono ?_; rintro e W5 ⟨rfl, hb⟩; have n3 := Aside0.mk (blk_below HN.out hb); clear HN; have HN := n3; clear n3; have n2 := Aside0.mk (HM.out.below (hb)); clear HM; have HM := n2; clear n2; have n1 := Aside0.mk (HP.out.below hb); clear HP; have HP := n1; clear n1; clear hb) | (go_at_call 24; refine (find_calls A c l p _ (Kd.C_below HR.out HP.out.B) hlen (HS.out.at p)).mono ?_; rintro e W6 ⟨i, rfl, hcut, hb⟩; have CUT := Aside0.mk hcut; clear hcut; have n3 := Aside0.mk (blk_below HN.out hb); clear HN; have HN := n3; clear n3; have n2 := Aside0.mk (HM.out.below (hb)); clear HM; have HM := n2; clear n2; have n1 := Aside0.mk (HP.out.below hb); clear HP; have HP := n1; clear n1; clear hb))
  cases hfd : fnd l p i
  case true =>
    have hi : i < l.length := by
      unfold fnd at hfd
      rw [Bool.and_eq_true, decide_eq_true_eq] at hfd
      exact hfd.1
    clear hfd
    have hi' : (i : Int) < (l.length : Int) := by omega
    obtain ⟨pa, rfl, x0, x1⟩ := at_T30 (Kd.C_below HR.out HP.out.B) i (by omega) (by omega)
    rw [Int.toNat_natCast] at x0 x1
    generalize hx : rd_T30 l i = x at *
    have HX := Aside0.mk hx
    clear hx
    have cz0 : World.cell? _ ⟨w.heap.size, 0, none⟩ = some (Value.int .i64 0) := (blk_cell HP.out.Q 0).trans rfl
    have cz1 : World.cell? _ ⟨w.heap.size, 1, none⟩ = some (Value.string (⟨#[]⟩ : ByteArray)) := (blk_cell HP.out.Q 1).trans rfl
    have cz2 : World.cell? _ ⟨w.heap.size, 2, none⟩ = some (Value.string (⟨#[]⟩ : ByteArray)) := (blk_cell HP.out.Q 2).trans rfl
    have fz0 := blk_frozen HP.out.Q 0
    have fz1 := blk_frozen HP.out.Q 1
    have fz2 := blk_frozen HP.out.Q 2
    go_wp2_with fail
    have HE := Aside0.mk (HP.out.store3 (.int .i64 200) (.string p) (.string x.f1))
    refine bodyPost_ret (results_ct rfl _ _ w.heap.size 37 #[.int .i64 200, .string p, .string x.f1] (0, 0) _ rfl (by exact HE.out.Q) Tryd.underlying37 rfl (by kernel_rfl)) rfl ?_
    exact ⟨_, _, _, _, rfl, HE.out.B, (fun _ => ⟨i, CUT.out, fun _ => ⟨rfl, rfl, rfl, by rw [HX.out]⟩⟩)⟩
  case false =>
    have HFD := Aside0.mk hfd
    clear hfd
    have s1 : (9223372036854775807 < p.size + 1) = False := eq_false (by omega)
    have s2 : (9223372036854775806 < p.size) = False := eq_false (by omega)
    have s3 : (9223372036854775807 < p.size + 1 + 10) = False := eq_false (by omega)
    have s4 : (9223372036854775796 < p.size) = False := eq_false (by omega)
    have s5 : (9223372036854775807 < a.size + 1) = False := eq_false (by omega)
    have s6 : (9223372036854775806 < a.size) = False := eq_false (by omega)
    have s7 : (9223372036854775797 < p.size + 1) = False := eq_false (by omega)
    go_upto_region 17 with (go_at_call 24; (with_reducible refine (find_calls A c l _ _ (Kd.C_below HR.out HP.out.B) hlen (HS.out.at _)).mono ?_); rintro e W7 ⟨i2, rfl, hcut, hb⟩; clear hcut; have n3 := Aside0.mk (blk_below HN.out hb); clear HN; have HN := n3; clear n3; have n2 := Aside0.mk (HM.out.below (hb)); clear HM; have HM := n2; clear n2; have n1 := Aside0.mk (HP.out.below hb); clear HP; have HP := n1; clear n1; clear hb)
    generalize fnd l _ i2 = f2
    cases f2
    case false =>
      go_upto_region 20 with (first | (go_at_call 16; refine (strings_HasSuffix.calls a _ _ _ SB.out).mono ?_; rintro e w' ⟨rfl, hd⟩; have hb := drawn_below hd; clear hd; have n3 := Aside0.mk (blk_below HN.out hb); clear HN; have HN := n3; clear n3; have n2 := Aside0.mk (HM.out.below (hb)); clear HM; have HM := n2; clear n2; have n1 := Aside0.mk (HP.out.below hb); clear HP; have HP := n1; clear n1; clear hb) | (go_at_call 26; refine (ship_key.calls k a kk kb _ KK.out).mono ?_; rintro e W8 ⟨rfl, hb⟩; have n3 := Aside0.mk (blk_below HN.out hb); clear HN; have HN := n3; clear n3; have n2 := Aside0.mk (HM.out.below (hb)); clear HM; have HM := n2; clear n2; have n1 := Aside0.mk (HP.out.below hb); clear HP; have HP := n1; clear n1; clear hb))
      obtain ⟨q, hq⟩ := tm_q1 kk KZ.out
      have QQ := Aside0.mk hq
      clear hq
      go_upto_region 21 with (at_lookup; refine Mp.wp_look rfl _ _ false rfl tm_k1 Tryd.underlying43 (tm_z9 _) E1_inj rfl HM.out kk q rfl QQ.out ?_; simp only [Bool.false_eq_true, if_false, Mp.look, Option.map_none, Option.getD_none])
      have cn0 : World.cell? _ ⟨gn, 0, none⟩ = some (Value.int .i64 404) := (blk_cell HN.out 0).trans rfl
      have cn1 : World.cell? _ ⟨gn, 1, none⟩ = some (Value.string (⟨#[]⟩ : ByteArray)) := (blk_cell HN.out 1).trans rfl
      have cn2 : World.cell? _ ⟨gn, 2, none⟩ = some (Value.string (⟨#[]⟩ : ByteArray)) := (blk_cell HN.out 2).trans rfl
      have cz0 : World.cell? _ ⟨w.heap.size, 0, none⟩ = some (Value.int .i64 0) := (blk_cell HP.out.Q 0).trans rfl
      have cz1 : World.cell? _ ⟨w.heap.size, 1, none⟩ = some (Value.string (⟨#[]⟩ : ByteArray)) := (blk_cell HP.out.Q 1).trans rfl
      have cz2 : World.cell? _ ⟨w.heap.size, 2, none⟩ = some (Value.string (⟨#[]⟩ : ByteArray)) := (blk_cell HP.out.Q 2).trans rfl
      have fz0 := blk_frozen HP.out.Q 0
      have fz1 := blk_frozen HP.out.Q 1
      have fz2 := blk_frozen HP.out.Q 2
      go_wp2_with fail
      have HE := Aside0.mk (HP.out.store3 (.int .i64 404) (.string (⟨#[]⟩ : ByteArray)) (.string (⟨#[]⟩ : ByteArray)))
      refine bodyPost_ret (results_ct rfl _ _ w.heap.size 37 #[.int .i64 404, .string (⟨#[]⟩ : ByteArray), .string (⟨#[]⟩ : ByteArray)] (0, 0) _ rfl (by exact HE.out.Q) Tryd.underlying37 rfl (by kernel_rfl)) rfl ?_
      exact ⟨_, _, _, _, rfl, HE.out.B, (fun _ => ⟨i, CUT.out, fun hh => by rw [HFD.out] at hh; cases hh⟩)⟩
    case true =>
      cases sb
      case true =>
        go_upto_region 20 with (first | (go_at_call 16; refine (strings_HasSuffix.calls a _ _ _ SB.out).mono ?_; rintro e w' ⟨rfl, hd⟩; have hb := drawn_below hd; clear hd; have n3 := Aside0.mk (blk_below HN.out hb); clear HN; have HN := n3; clear n3; have n2 := Aside0.mk (HM.out.below (hb)); clear HM; have HM := n2; clear n2; have n1 := Aside0.mk (HP.out.below hb); clear HP; have HP := n1; clear n1; clear hb) | (go_at_call 26; refine (ship_key.calls k a kk kb _ KK.out).mono ?_; rintro e W8 ⟨rfl, hb⟩; have n3 := Aside0.mk (blk_below HN.out hb); clear HN; have HN := n3; clear n3; have n2 := Aside0.mk (HM.out.below (hb)); clear HM; have HM := n2; clear n2; have n1 := Aside0.mk (HP.out.below hb); clear HP; have HP := n1; clear n1; clear hb))
        obtain ⟨q, hq⟩ := tm_q1 kk KZ.out
        have QQ := Aside0.mk hq
        clear hq
        go_upto_region 21 with (at_lookup; refine Mp.wp_look rfl _ _ false rfl tm_k1 Tryd.underlying43 (tm_z9 _) E1_inj rfl HM.out kk q rfl QQ.out ?_; simp only [Bool.false_eq_true, if_false, Mp.look, Option.map_none, Option.getD_none])
        have cn0 : World.cell? _ ⟨gn, 0, none⟩ = some (Value.int .i64 404) := (blk_cell HN.out 0).trans rfl
        have cn1 : World.cell? _ ⟨gn, 1, none⟩ = some (Value.string (⟨#[]⟩ : ByteArray)) := (blk_cell HN.out 1).trans rfl
        have cn2 : World.cell? _ ⟨gn, 2, none⟩ = some (Value.string (⟨#[]⟩ : ByteArray)) := (blk_cell HN.out 2).trans rfl
        have cz0 : World.cell? _ ⟨w.heap.size, 0, none⟩ = some (Value.int .i64 0) := (blk_cell HP.out.Q 0).trans rfl
        have cz1 : World.cell? _ ⟨w.heap.size, 1, none⟩ = some (Value.string (⟨#[]⟩ : ByteArray)) := (blk_cell HP.out.Q 1).trans rfl
        have cz2 : World.cell? _ ⟨w.heap.size, 2, none⟩ = some (Value.string (⟨#[]⟩ : ByteArray)) := (blk_cell HP.out.Q 2).trans rfl
        have fz0 := blk_frozen HP.out.Q 0
        have fz1 := blk_frozen HP.out.Q 1
        have fz2 := blk_frozen HP.out.Q 2
        go_wp2_with fail
        have HE := Aside0.mk (HP.out.store3 (.int .i64 404) (.string (⟨#[]⟩ : ByteArray)) (.string (⟨#[]⟩ : ByteArray)))
        refine bodyPost_ret (results_ct rfl _ _ w.heap.size 37 #[.int .i64 404, .string (⟨#[]⟩ : ByteArray), .string (⟨#[]⟩ : ByteArray)] (0, 0) _ rfl (by exact HE.out.Q) Tryd.underlying37 rfl (by kernel_rfl)) rfl ?_
        exact ⟨_, _, _, _, rfl, HE.out.B, (fun _ => ⟨i, CUT.out, fun hh => by rw [HFD.out] at hh; cases hh⟩)⟩
      case false =>
        go_upto_region 18 with (go_at_call 16; refine (strings_HasSuffix.calls a _ _ _ SB.out).mono ?_; rintro e w' ⟨rfl, hd⟩; have hb := drawn_below hd; clear hd; have n3 := Aside0.mk (blk_below HN.out hb); clear HN; have HN := n3; clear n3; have n2 := Aside0.mk (HM.out.below (hb)); clear HM; have HM := n2; clear n2; have n1 := Aside0.mk (HP.out.below hb); clear HP; have HP := n1; clear n1; clear hb)
        have cz0 : World.cell? _ ⟨w.heap.size, 0, none⟩ = some (Value.int .i64 0) := (blk_cell HP.out.Q 0).trans rfl
        have cz1 : World.cell? _ ⟨w.heap.size, 1, none⟩ = some (Value.string (⟨#[]⟩ : ByteArray)) := (blk_cell HP.out.Q 1).trans rfl
        have cz2 : World.cell? _ ⟨w.heap.size, 2, none⟩ = some (Value.string (⟨#[]⟩ : ByteArray)) := (blk_cell HP.out.Q 2).trans rfl
        have fz0 := blk_frozen HP.out.Q 0
        have fz1 := blk_frozen HP.out.Q 1
        have fz2 := blk_frozen HP.out.Q 2
        go_wp2_with fail
        have HE := Aside0.mk (HP.out.store3 (.int .i64 301) (.string (a ++ (⟨#[47]⟩ : ByteArray))) (.string (⟨#[]⟩ : ByteArray)))
        refine bodyPost_ret (results_ct rfl _ _ w.heap.size 37 #[.int .i64 301, .string (a ++ (⟨#[47]⟩ : ByteArray)), .string (⟨#[]⟩ : ByteArray)] (0, 0) _ rfl (by exact HE.out.Q) Tryd.underlying37 rfl (by kernel_rfl)) rfl ?_
        exact ⟨_, _, _, _, rfl, HE.out.B, (fun _ => ⟨i, CUT.out, fun hh => by rw [HFD.out] at hh; cases hh⟩)⟩
end Go.Proofs.YtbldjamcnohfjaaDoor.PTopServed
