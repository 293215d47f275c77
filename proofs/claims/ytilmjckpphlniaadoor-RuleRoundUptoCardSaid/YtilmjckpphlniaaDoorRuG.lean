/- For the law RuleRound: some and all, walked. No condition. -/
import Derived.Test.YtilmjckpphlniaaDoorRuF
namespace Go.Proofs.YtilmjckpphlniaaDoor.PRuleRound
open Go.RowKit Go.Proofs.YtilmjckpphlniaaDoorW.PrintWords Go.Proofs.YtilmjckpphlniaaDoorW.PrintLast Go.Proofs.YtilmjckpphlniaaDoorW.PrintMore
set_option linter.unusedVariables false
set_option linter.unusedSimpArgs false

theorem info47o : (Tryd.prog.info? 47).map (fun i => (i.zero, i.size, i.bytes)) = some (some (.agg #[.int .i64 0, .int .i64 0, .int .i64 0, .int .i64 0, .slice none 0 0]), k47.sz, 56) := by kernel_rfl
/-- the reader stands behind the n-th byte; nothing else of what was there has changed -/
def Fin (w0 : World) (g : Nat) (s : ByteArray) (w : World) (n : Nat) (w' : World) : Prop := ∃ j : Int, j = (n : Int) ∧ Ru w0 g s j w' ∧ w.grownBy w' (some g)
theorem fin_mk {w0 w w' : World} {g n : Nat} {s : ByteArray} {j : Int} (h : j = (n : Int)) (hr : Ru w0 g s j w') (hg : w.grownBy w' (some g)) : Fin w0 g s w n w' := ⟨j, h, hr, hg⟩
def SgC (f : S47 → List UInt8) (k : S47) : Prop := ∀ (m : Nat) (rest : List UInt8) (s : ByteArray) (i : Int) (w0 w : World) (g : Nat), At s m (f k ++ rest) → Fol rest → i = (m : Int) → Ru w0 g s i w →
  Calls Tryd.prog 70 #[.pointer (some ⟨g, 0, none⟩)] w fun e w' => ∃ A c, e = .returned (.agg #[.int .i64 k.f0, .int .i64 k.f1, .int .i64 k.f2, .int .i64 k.f3, .slice A k.f4.length c]) ∧ RtF w' (fun b => w.heap.size ≤ b) k A c ∧ Fin w0 g s w (m + (f k).length) w'
def AlC (none_ : Bool) (f : S47 → List UInt8) (k : S47) : Prop := ∀ (m : Nat) (rest : List UInt8) (s : ByteArray) (i : Int) (w0 w : World) (g : Nat), At s m (f k ++ rest) → Fol rest → ([32, 38] : List UInt8).isPrefixOf rest = false → i = (m : Int) → Ru w0 g s i w →
  Calls Tryd.prog 54 #[.pointer (some ⟨g, 0, none⟩), .bool none_] w fun e w' => ∃ A c, e = .returned (.agg #[.int .i64 k.f0, .int .i64 k.f1, .int .i64 k.f2, .int .i64 k.f3, .slice A k.f4.length c]) ∧ RtF w' (fun b => w.heap.size ≤ b) k A c ∧ Fin w0 g s w (m + (f k).length) w'
/-- the texts behind the first one -/
def tls (f : S47 → List UInt8) (sep : List UInt8) : List S47 → List UInt8
  | [] => []
  | k :: l => sep ++ (f k ++ tls f sep l)
theorem join_tls (f : S47 → List UInt8) (sep : List UInt8) : ∀ (k : S47) (l : List S47), Lib.join ((k :: l).map f) sep = f k ++ tls f sep l
  | k, [] => by rw [List.map_cons, List.map_nil, Lib.join_one, tls, List.append_nil]
  | k, x :: l => by
    have := join_tls f sep x l
    rw [List.map_cons] at this
    rw [List.map_cons, List.map_cons, join_cons2, this]
    rfl
theorem fol_tls {f : S47 → List UInt8} {sep rest : List UInt8} (hs : ∃ r, sep = 32 :: r) (hf : Fol rest) : ∀ l, Fol (tls f sep l ++ rest)
  | [] => hf
  | k :: l => by
    obtain ⟨r, rfl⟩ := hs
    intro c hc
    simp [tls] at hc
    exact .inr (.inl hc.symm)
theorem noamp_tls {f : S47 → List UInt8} {rest : List UInt8} (h : ([32, 38] : List UInt8).isPrefixOf rest = false) : ∀ l, ([32, 38] : List UInt8).isPrefixOf (tls f sOr l ++ rest) = false
  | [] => h
  | k :: l => rfl
section
variable {w W : World} {br : Nat} {l : List (Nat × Array Value × Nat)}
theorem Bg.apart (h : Bg w br W l) {base : Nat} {ok : Nat → Prop} {v : Value} {xs : List S47} (ho : Kd.N k47 47 W base ok v xs) (ht : l.all (fun p => p.2.2 != 47) = true) : ∀ (i : Nat) (p : Nat × Array Value × Nat), l[i]? = some p → some p.1 ≠ v.ownBlock := fun i p hp =>
  Kd.N_ne ho (h.blk i p hp) (fun he => by
    have := List.all_eq_true.1 ht p (List.mem_of_getElem? hp)
    rw [bne_iff_ne] at this
    exact this he.symm)
end
set_option maxHeartbeats 4000000 in
set_option maxRecDepth 100000 in
theorem some_calls (none_ : Bool) (f : S47 → List UInt8) (L : List S47) (hL : L ≠ []) (hn : L.length ≤ 20) (hs : ∀ k ∈ L, AlC none_ f k) (m : Nat) (rest : List UInt8) (s : ByteArray) (i : Int) (w0 w : World) (g : Nat) (hA : At s m (Lib.join (L.map f) sOr ++ rest)) (hf : Fol rest) (hamp : ([32, 38] : List UInt8).isPrefixOf rest = false) (hor : ([32, 124] : List UInt8).isPrefixOf rest = false) (hi : i = (m : Int)) (hr : Ru w0 g s i w) :
    Calls Tryd.prog 33 #[.pointer (some ⟨g, 0, none⟩), .bool none_] w fun e w' => ∃ A c, e = .returned (.slice A L.length c) ∧ Kd.F k47 w' (fun b => w.heap.size ≤ b) A L.length L ∧ L.length ≤ c ∧ Fin w0 g s w (m + (Lib.join (L.map f) sOr).length) w' := by
  have hu47 := Tryd.underlying47
  have hu22 := Tryd.underlying22
  have hu52 := Tryd.underlying52
  obtain ⟨x, L', rfl⟩ := List.exists_cons_of_ne_nil hL
  have HS := Aside0.mk hs
  have HLN := Aside0.mk hn
  have HJ := Aside0.mk (join_tls f sOr x L')
  rw [join_tls, List.append_assoc] at hA
  have HA := Aside0.mk hA
  have HA1 := Aside0.mk hA.next
  have HF := Aside0.mk hf
  have HF1 := Aside0.mk (fol_tls (f := f) (sep := sOr) ⟨_, rfl⟩ hf L')
  have HAM := Aside0.mk hamp
  have HO := Aside0.mk hor
  have HAM1 := Aside0.mk (noamp_tls (f := f) hamp L')
  have HI := Aside0.mk hi
  have HRU := Aside0.mk hr
  have HP := Aside0.mk (Bg.start hr.S)
  have LG := Aside0.mk (blk_lt hr.S)
  clear hs hn hA hf hamp hor hi hr hL
  go_enter Tryd.func33, Tryd.ntmps33
  go_upto_region 2 with (first | (go_at_call 54; have LSZ := Aside0.mk (show w.heap.size ≤ _ from HP.out.size); refine (HS.out x (by simp) _ _ _ _ _ _ _ HA.out HF1.out HAM1.out HI.out (HP.out.ru HRU.out 0 rfl)).mono ?_; rintro e w1 ⟨A1, c1, rfl, hx_, q1, hq_, hr_, hg_⟩; have HX := Aside0.mk hx_; have HQ := Aside0.mk hq_; have n0 := Aside0.mk (HP.out.move 0 rfl hg_ hr_.S); clear HP; have HP := n0; clear n0; clear hx_ hq_ hr_ hg_) | ((with_reducible refine gate_dst (N := 9) rfl ?_); refine Kd.N_lit k47 (w0 := w1) w.heap.size 47 ?hg (N' := 9) ?hd (xs := [x]) (inner := [.int .i64 x.f0, .int .i64 x.f1, .int .i64 x.f2, .int .i64 x.f3, .slice A1 x.f4.length c1]) (ok := fun k => w.heap.size ≤ k ∧ True) (okp := fun k => w.heap.size ≤ k) ?hr (Reps.c5 (k47_mkF _ _ x HX.out.2 HX.out.1) (Reps.none _ _)) (fun k hk => ⟨hk, trivial⟩) ⟨HP.out.size, trivial⟩ (Below.refl _ _) HP.out.size (by simp) ?_; (case hd => rfl); (case hg => rfl); (case hr => first | (go_simp; done) | (go_simp; rfl)); intro v1 w2 hn_ hb_ hg_ hat_; have n0 := Aside0.mk (HP.out.row hg_ (fun i h_ => by cases h_) (fun i p hp h_ => by cases h_)); have HN := Aside0.mk hn_; clear HP hn_ hb_ hg_ hat_; have HP := n0; clear n0))
  obtain ⟨Av0, cv0, hv0⟩ := Kd.N_slice HN.out
  subst hv0
  clear HX HA
  have HQ0 : Aside0 (q1 = ((m + (f x).length : Nat) : Int)) := HQ
  have TOT := Aside0.mk (show m + (f x).length + (tls f sOr L').length = m + (Lib.join ((x :: L').map f) sOr).length by rw [HJ.out, List.length_append]; omega)
  go_loopg [5] L'.length (fun kq vs w' => ∃ (vO : Value) (q1 : Int) (m1 : Nat) (done todo : List S47), vO = vs ∧ Aside0 (q1 = (m1 : Int)) ∧ Aside0 (todo.length = kq) ∧ Aside0 (done ++ todo = x :: L') ∧ Aside0 (1 ≤ done.length) ∧ Aside0 (At s m1 (tls f sOr todo ++ rest)) ∧ Aside0 (m1 + (tls f sOr todo).length = m + (Lib.join ((x :: L').map f) sOr).length) ∧ Aside0 (Kd.N k47 47 w' w.heap.size (fun k => w.heap.size ≤ k ∧ True) vO done) ∧ Aside0 (Bg w g w' [(g, #[.string s, .int .i64 q1, .int .i64 0, .bool false, .bool false], 52)]))
  case atStart => exact ⟨_, q1, m + (f x).length, [x], L', rfl, HQ, ⟨rfl⟩, ⟨rfl⟩, ⟨Nat.le_refl _⟩, HA1, TOT, HN, HP⟩
  case round =>
    clear HP HN HQ HQ0 HA1 HF1 TOT HAM1
    obtain ⟨vO, q0, m0, done, todo, rfl, HQ0, HTL, HDT, HD1, HA, HTOT, HN, HP⟩ := hrel
    obtain ⟨Av, cv, hv⟩ := Kd.N_slice HN.out
    subst hv
    have HLD := Aside0.mk (show done.length ≤ 20 by have h1_ := congrArg List.length HDT.out; rw [List.length_append] at h1_; have h2_ := HLN.out; omega)
    cases todo with
    | nil =>
      have hd := HDT.out
      rw [List.append_nil] at hd
      subst hd
      clear HDT
      go_wp2_with (go_at_call 55; refine (no_calls ⟨#[32, 124, 32]⟩ m0 (by decide) HA.out HO.out HQ0.out (HP.out.ru HRU.out 0 rfl)).mono ?_; rintro e w4 ⟨rfl, hr_, hg_⟩; have n0 := Aside0.mk (HP.out.move 0 rfl hg_ hr_.S); have n1 := Aside0.mk (Kd.N_grown HN.out hg_ (fun k hk he => by injection he with he; have := hk.1; have := LG.out; omega)); clear HP HN; have HP := n0; have HN := n1; clear n0 n1; clear hr_ hg_)
      go_ret
      have hh := Kd.N_reads' HN.out
      exact ⟨Av, cv, rfl, Kd.F_mono (Kd.N_F HN.out) (fun k hk => hk.1), hh.2.1, fin_mk (by rw [HQ0.out]; have h1_ := HTOT.out; rw [tls, List.length_nil] at h1_; omega) (HP.out.ru HRU.out 0 rfl) HP.out.G⟩
    | cons y todo =>
      have HDT2 := Aside0.mk (show (done ++ [y]) ++ todo = x :: L' by rw [List.append_assoc]; exact HDT.out)
      have HYM := Aside0.mk (show y ∈ x :: L' by rw [← HDT.out]; simp)
      have HA2 := Aside0.mk (show At s m0 ((⟨#[32, 124, 32]⟩ : ByteArray).data.toList ++ (f y ++ (tls f sOr todo ++ rest))) by have h_ := HA.out; rw [tls] at h_; simpa using h_)
      have HA3 := Aside0.mk HA2.out.next
      have HA4 := Aside0.mk HA3.out.next
      have HF2 := Aside0.mk (fol_tls (f := f) (sep := sOr) ⟨_, rfl⟩ HF.out todo)
      have HAM2 := Aside0.mk (noamp_tls (f := f) HAM.out todo)
      have HTOT2 := Aside0.mk (show m0 + 3 + (f y).length + (tls f sOr todo).length = m + (Lib.join ((x :: L').map f) sOr).length by have h_ := HTOT.out; rw [tls, List.length_append, List.length_append] at h_; have e_ : (sOr).length = 3 := rfl; omega)
      clear HA HTOT HDT
      go_upto_region 3 with (go_at_call 55; refine (yes_calls ⟨#[32, 124, 32]⟩ m0 (by decide) (by decide) HA2.out HQ0.out (HP.out.ru HRU.out 0 rfl)).mono ?_; rintro e w4 ⟨rfl, q2, hq_, hr_, hg_⟩; have n0 := Aside0.mk (HP.out.move 0 rfl hg_ hr_.S); have n1 := Aside0.mk (Kd.N_grown HN.out hg_ (fun k hk he => by injection he with he; have := hk.1; have := LG.out; omega)); clear HP HN; have HP := n0; have HN := n1; clear n0 n1; clear hr_ hg_; have HQ2 := Aside0.mk hq_; clear hq_)
      have LNB := Aside0.mk (show ∀ k, (Value.slice Av done.length cv).ownBlock = some k → k < w4.heap.size from Kd.N_lt HN.out)
      go_wp2_with (first | (go_at_call 54; have LSZ := Aside0.mk (show w.heap.size ≤ w4.heap.size from HP.out.size); refine (HS.out y HYM.out _ _ _ _ _ _ _ HA3.out HF2.out HAM2.out HQ2.out (HP.out.ru HRU.out 0 rfl)).mono ?_; rintro e w5 ⟨A1, c1, rfl, hx_, q1, hq_, hr_, hg_⟩; have HX := Aside0.mk hx_; have HQ := Aside0.mk hq_; have n0 := Aside0.mk (HP.out.move 0 rfl hg_ hr_.S); have n1 := Aside0.mk (Kd.N_grown HN.out hg_ (fun k hk he => by injection he with he; have := hk.1; have := LG.out; omega)); clear HP HN; have HP := n0; have HN := n1; clear n0 n1; clear hx_ hq_ hr_ hg_) | ((with_reducible refine gate_builtin (b := .append) (xs := #[.tmp 12, .tmp 16]) rfl ?_); (try (refine gate_guard (by rfl) ?_; dsimp only)); at_builtin; refine Kd.N_append k47 (w0 := w5) w.heap.size rfl (.tmp 12) (.tmp 16) 22 47 (.agg #[.int .i64 0, .int .i64 0, .int .i64 0, .int .i64 0, .slice none 0 0]) 56 rfl Tryd.underlying22 info47o rfl (by decide) (by omega) (.slice Av done.length cv) done y [.int .i64 y.f0, .int .i64 y.f1, .int .i64 y.f2, .int .i64 y.f3, .slice A1 y.f4.length c1] (fun k => w.heap.size ≤ k ∧ True) _ rfl (by rfl) (k47_mkF _ _ y HX.out.2 HX.out.1) (fun k hk => ⟨⟨by have h1_ := hk; have h2_ := LSZ.out; omega, trivial⟩, fun he => by have h1_ := hk; have h2_ := LNB.out k he.symm; omega⟩) (fun k hk => ⟨Nat.le_trans HP.out.size hk, trivial⟩) HN.out (Below.refl _ _) HP.out.size (by have := HLD.out; omega) ?_; intro v1 w6 hn_ hb_ hg_ hat_; have n0 := Aside0.mk (HP.out.row hg_ (fun i h_ => .inl (Kd.N_base HN.out i h_)) (fun i p hp => by rcases i with _ | i; (injection hp with hp; subst hp; exact fun he => by have h1_ := Kd.N_base HN.out g he.symm; have := LG.out; omega); (cases hp))); have n1 := Aside0.mk hn_; clear HP HN hn_ hb_ hg_ hat_; have HP := n0; have HN := n1; clear n0 n1))
      go_roundg todo.length
      case measure => have := HTL.out; simp only [List.length_cons] at this; omega
      case rel => exact ⟨_, q1, m0 + 3 + (f y).length, done ++ [y], todo, rfl, HQ, ⟨rfl⟩, HDT2, ⟨by rw [List.length_append]; have := HD1.out; omega⟩, HA4, HTOT2, HN, HP⟩
theorem Bg.apart2 {w W : World} {br g : Nat} {c0 c1 : Array Value} {t0 t1 : Nat} {ok : Nat → Prop} {v : Value} {xs : List S47} (h : Bg w g W [(br, c0, t0), (g, c1, t1)]) (ho : Kd.N k47 47 W w.heap.size ok v xs) (hb : ∀ k, ok k → k ≠ br) (hg : g < w.heap.size) : ∀ (i : Nat) (p : Nat × Array Value × Nat), ([(br, c0, t0), (g, c1, t1)] : List (Nat × Array Value × Nat))[i]? = some p → some p.1 ≠ v.ownBlock := fun i p hp he => by
  rcases i with _ | _ | i
  · injection hp with hp; subst hp; exact hb _ (ho.1 br he.symm) rfl
  · injection hp with hp; subst hp; have := Kd.N_base ho g he.symm; omega
  · cases hp
def allOf : List S47 → S47
  | [t] => t
  | l => ⟨2, 0, 0, 0, l⟩
set_option maxHeartbeats 4000000 in
set_option maxRecDepth 100000 in
theorem all_calls (none_ : Bool) (f : S47 → List UInt8) (L : List S47) (hL : L ≠ []) (hn : L.length ≤ 20) (hs : ∀ k ∈ L, SgC f k) (m : Nat) (rest : List UInt8) (s : ByteArray) (i : Int) (w0 w : World) (g : Nat) (hA : At s m (Lib.join (L.map f) sAnd ++ rest)) (hf : Fol rest) (hamp : ([32, 38] : List UInt8).isPrefixOf rest = false) (hbr : L.length = 1 → ([40] : List UInt8).isPrefixOf (Lib.join (L.map f) sAnd ++ rest) = true → none_ = true) (hi : i = (m : Int)) (hr : Ru w0 g s i w) :
    Calls Tryd.prog 54 #[.pointer (some ⟨g, 0, none⟩), .bool none_] w fun e w' => ∃ A c, e = .returned (.agg #[.int .i64 (allOf L).f0, .int .i64 (allOf L).f1, .int .i64 (allOf L).f2, .int .i64 (allOf L).f3, .slice A (allOf L).f4.length c]) ∧ RtF w' (fun b => w.heap.size ≤ b) (allOf L) A c ∧ Fin w0 g s w (m + (Lib.join (L.map f) sAnd).length) w' := by
  have hu47 := Tryd.underlying47
  have hu22 := Tryd.underlying22
  have hu52 := Tryd.underlying52
  obtain ⟨x, L', rfl⟩ := List.exists_cons_of_ne_nil hL
  have HS := Aside0.mk hs
  have HLN := Aside0.mk hn
  have HA00 := Aside0.mk hA
  have HJ := Aside0.mk (join_tls f sAnd x L')
  rw [join_tls, List.append_assoc] at hA
  have HA := Aside0.mk hA
  have HA1 := Aside0.mk hA.next
  have HF := Aside0.mk hf
  have HF1 := Aside0.mk (fol_tls (f := f) (sep := sAnd) ⟨_, rfl⟩ hf L')
  have HAM := Aside0.mk hamp
  have HBR := Aside0.mk hbr
  have HI := Aside0.mk hi
  have HRU := Aside0.mk hr
  have HP := Aside0.mk (Bg.start hr.S)
  have LG := Aside0.mk (blk_lt hr.S)
  clear hs hn hA hf hamp hbr hi hr hL
  go_enter Tryd.func54, Tryd.ntmps54
  obtain ⟨b, hb⟩ : ∃ b, ([40] : List UInt8).isPrefixOf (Lib.join ((x :: L').map f) sAnd ++ rest) = b := ⟨_, rfl⟩
  have HBE := Aside0.mk hb
  clear hb
  go_upto_region 2 with (first | ((with_reducible refine gate_dst (N := 4) rfl ?_); refine box_event ?hg (N := 4) ?hd (cs := #[.int .i64 0, .int .i64 0, .int .i64 0, .int .i64 0, .slice none 0 0]) (t := 47) ?hr ?_; (case hd => rfl); (case hg => rfl); (case hr => first | (go_simp; done) | (go_simp; rfl)); intro br hg_ w1 hbox hb; have n0 := Aside0.mk (HP.out.new hg_ hbox hb); clear HP; have HP := n0; clear n0; clear hg_ hbox hb) | (go_at_call 17; refine (is_calls ⟨#[40]⟩ m b HA00.out HBE.out HI.out (HP.out.ru HRU.out 1 rfl)).mono ?_; rintro e w2 ⟨rfl, hr_, hg_⟩; have n0 := Aside0.mk (HP.out.move 1 rfl hg_ hr_.S); clear HP; have HP := n0; clear n0; clear hr_ hg_))
  have LB2 := Aside0.mk (HP.out.lt 0 rfl)
  have LW2 := Aside0.mk HP.out.size
  have LBW := Aside0.mk (show w.heap.size ≤ br from (HP.out.low 0 rfl).elim (fun h_ => h_) (fun h_ => by have h1_ := HP.out.nd 0 1 _ _ (by omega) rfl rfl; dsimp only at h1_; omega))
  go_upto_region 3 with (first | (go_at_call 70; refine (HS.out x (by simp) _ _ _ _ _ _ _ HA.out HF1.out HI.out (HP.out.ru HRU.out 1 rfl)).mono ?_; rintro e w3 ⟨A1, c1, rfl, hx_, q1, hq_, hr_, hg_⟩; have HX := Aside0.mk hx_; have HQ := Aside0.mk hq_; have LGS := Aside0.mk hg_.size; have n0 := Aside0.mk (HP.out.move 1 rfl hg_ hr_.S); clear HP; have HP := n0; clear n0; clear hx_ hq_ hr_ hg_) | ((with_reducible refine gate_dst (N := 11) rfl ?_); refine Kd.N_lit k47 (w0 := w3) w.heap.size 47 ?hg (N' := 11) ?hd (xs := [x]) (inner := [.int .i64 x.f0, .int .i64 x.f1, .int .i64 x.f2, .int .i64 x.f3, .slice A1 x.f4.length c1]) (ok := fun k => w.heap.size ≤ k ∧ br < k) (okp := fun k => w2.heap.size ≤ k) ?hr (Reps.c5 (k47_mkF _ _ x HX.out.2 HX.out.1) (Reps.none _ _)) (fun k hk => ⟨Nat.le_trans LW2.out hk, Nat.lt_of_lt_of_le LB2.out hk⟩) ⟨HP.out.size, HP.out.lt 0 rfl⟩ (Below.refl _ _) HP.out.size (by simp) ?_; (case hd => rfl); (case hg => rfl); (case hr => first | (go_simp; done) | (go_simp; rfl)); intro v1 w4 hn_ hb_ hg_ hat_; have n0 := Aside0.mk (HP.out.row hg_ (fun i h_ => by cases h_) (fun i p hp h_ => by cases h_)); have HN := Aside0.mk hn_; clear HP hn_ hb_ hg_ hat_; have HP := n0; clear n0))
  clear LGS
  obtain ⟨Av0, cv0, hv0⟩ := Kd.N_slice HN.out
  subst hv0
  clear HX HA
  have HQ0 : Aside0 (q1 = ((m + (f x).length : Nat) : Int)) := HQ
  have TOT := Aside0.mk (show m + (f x).length + (tls f sAnd L').length = m + (Lib.join ((x :: L').map f) sAnd).length by rw [HJ.out, List.length_append]; omega)
  go_loopg [6] L'.length (fun kq vs w' => ∃ (vO : Value) (q1 : Int) (m1 : Nat) (done todo : List S47), vO = vs ∧ Aside0 (q1 = (m1 : Int)) ∧ Aside0 (todo.length = kq) ∧ Aside0 (done ++ todo = x :: L') ∧ Aside0 (1 ≤ done.length) ∧ Aside0 (At s m1 (tls f sAnd todo ++ rest)) ∧ Aside0 (m1 + (tls f sAnd todo).length = m + (Lib.join ((x :: L').map f) sAnd).length) ∧ Aside0 (Kd.N k47 47 w' w.heap.size (fun k => w.heap.size ≤ k ∧ br < k) vO done) ∧ Aside0 (Bg w g w' [(br, #[.int .i64 0, .int .i64 0, .int .i64 0, .int .i64 0, .slice none 0 0], 47), (g, #[.string s, .int .i64 q1, .int .i64 0, .bool false, .bool false], 52)]))
  case atStart => exact ⟨_, q1, m + (f x).length, [x], L', rfl, HQ, ⟨rfl⟩, ⟨rfl⟩, ⟨Nat.le_refl _⟩, HA1, TOT, HN, HP⟩
  case round =>
    clear HP HN HQ HQ0 HA1 HF1 TOT
    obtain ⟨vO, q0, m0, done, todo, rfl, HQ0, HTL, HDT, HD1, HA, HTOT, HN, HP⟩ := hrel
    obtain ⟨Av, cv, hv⟩ := Kd.N_slice HN.out
    subst hv
    have HLD := Aside0.mk (show done.length ≤ 20 by have h1_ := congrArg List.length HDT.out; rw [List.length_append] at h1_; have h2_ := HLN.out; omega)
    cases todo with
    | nil =>
      have hd := HDT.out
      rw [List.append_nil] at hd
      have HD := Aside0.mk hd
      clear hd HDT
      have e2 : m0 = m + (Lib.join ((x :: L').map f) sAnd).length := by have h1_ := HTOT.out; rw [tls, List.length_nil] at h1_; omega
      have E2 := Aside0.mk e2
      clear e2
      go_upto_region 5 with (go_at_call 55; refine (no_calls ⟨#[32, 38, 32]⟩ m0 (by decide) HA.out HAM.out HQ0.out (HP.out.ru HRU.out 1 rfl)).mono ?_; rintro e w5 ⟨rfl, hr_, hg_⟩; have n0 := Aside0.mk (HP.out.move 1 rfl hg_ hr_.S); have n1 := Aside0.mk (Kd.N_grown HN.out hg_ (fun k hk he => by injection he with he; have := hk.1; have := LG.out; omega)); clear HP HN; have HP := n0; have HN := n1; clear n0 n1; clear hr_ hg_)
      have HRD := Aside0.mk (Kd.N_reads' HN.out)
      have HFX := Aside0.mk (Kd.N_F HN.out)
      cases L' with
      | cons y l =>
        have HK2 := Aside0.mk (show 2 ≤ done.length by rw [HD.out]; simp)
        have HAO2 := Aside0.mk (show allOf (x :: y :: l) = ⟨2, 0, 0, 0, done⟩ by rw [HD.out]; rfl)
        have c5 : decide ((1 : Int) < (done.length : Int)) = true := decide_eq_true (by have := HK2.out; omega)
        have c6 : decide (1 < done.length) = true := decide_eq_true (by have := HK2.out; omega)
        have c7 : (1 < done.length) = True := eq_true HK2.out
        have c8 : ((1 : Int) < (done.length : Int)) = True := eq_true (by have := HK2.out; omega)
        have yr0 : w5.cell? ⟨br, 0, none⟩ = some (.int .i64 0) := (blk_cell (HP.out.get 0 rfl) 0).trans rfl
        have yr1 : w5.cell? ⟨br, 1, none⟩ = some (.int .i64 0) := (blk_cell (HP.out.get 0 rfl) 1).trans rfl
        have yr2 : w5.cell? ⟨br, 2, none⟩ = some (.int .i64 0) := (blk_cell (HP.out.get 0 rfl) 2).trans rfl
        have yr3 : w5.cell? ⟨br, 3, none⟩ = some (.int .i64 0) := (blk_cell (HP.out.get 0 rfl) 3).trans rfl
        have yr4 : w5.cell? ⟨br, 4, none⟩ = some (.slice none 0 0) := (blk_cell (HP.out.get 0 rfl) 4).trans rfl
        have zr0 := blk_frozen (HP.out.get 0 rfl) 0
        have zr1 := blk_frozen (HP.out.get 0 rfl) 1
        have zr2 := blk_frozen (HP.out.get 0 rfl) 2
        have zr3 := blk_frozen (HP.out.get 0 rfl) 3
        have zr4 := blk_frozen (HP.out.get 0 rfl) 4
        go_wp2_with fail
        refine bodyPost_ret (results_cell_row rfl _ _ br 47 #[.int .i64 2, .int .i64 0, .int .i64 0, .int .i64 0, .slice Av done.length cv] (0, 0) _ rfl ((HP.out.five 0 rfl (.int .i64 2) (.int .i64 0) (.int .i64 0) (.int .i64 0) (.slice Av done.length cv)).get 0 rfl) Tryd.underlying47 rfl (by kernel_rfl)) rfl ?_
        have ha := (HP.out.five 0 rfl (.int .i64 2) (.int .i64 0) (.int .i64 0) (.int .i64 0) (.slice Av done.length cv))
        refine ⟨Av, cv, by rw [HAO2.out]; try rfl, ?_, fin_mk (by rw [HQ0.out, E2.out]; try rfl) (ha.ru HRU.out 1 rfl) ha.G⟩
        rw [HAO2.out]
        exact ⟨Kd.F_mono (Kd.F_step HFX.out (fun k hk hlt => five_far (g := br) (by have := hk.2; omega) (.int .i64 2) (.int .i64 0) (.int .i64 0) (.int .i64 0) (.slice Av done.length cv))) (fun k hk => hk.1), HRD.out.2.1⟩
      | nil =>
        have hd := HD.out
        subst hd
        clear HD
        obtain ⟨ad, B4, d4, e_, x0, x1, x2, x3, x4, hrd⟩ := at_F47 HFX.out 0 (by omega) (by simp)
        cases e_
        have er : rd_T47 [x] 0 = x := rfl
        have ea : ad.add ((0 : Int).toNat * 5) = ad := by cases ad; rfl
        rw [er] at x0 x1 x2 x3 x4 hrd
        rw [ea] at x0 x1 x2 x3 x4
        have RD := Aside0.mk hrd
        clear hrd er ea
        have HBN := Aside0.mk (show b = true → none_ = true from fun h_ => HBR.out rfl (HBE.out.trans h_))
        have yr0 : w5.cell? ⟨br, 0, none⟩ = some (.int .i64 0) := (blk_cell (HP.out.get 0 rfl) 0).trans rfl
        have yr1 : w5.cell? ⟨br, 1, none⟩ = some (.int .i64 0) := (blk_cell (HP.out.get 0 rfl) 1).trans rfl
        have yr2 : w5.cell? ⟨br, 2, none⟩ = some (.int .i64 0) := (blk_cell (HP.out.get 0 rfl) 2).trans rfl
        have yr3 : w5.cell? ⟨br, 3, none⟩ = some (.int .i64 0) := (blk_cell (HP.out.get 0 rfl) 3).trans rfl
        have yr4 : w5.cell? ⟨br, 4, none⟩ = some (.slice none 0 0) := (blk_cell (HP.out.get 0 rfl) 4).trans rfl
        have zr0 := blk_frozen (HP.out.get 0 rfl) 0
        have zr1 := blk_frozen (HP.out.get 0 rfl) 1
        have zr2 := blk_frozen (HP.out.get 0 rfl) 2
        have zr3 := blk_frozen (HP.out.get 0 rfl) 3
        have zr4 := blk_frozen (HP.out.get 0 rfl) 4
        have yg3 : w5.cell? ⟨g, 3, none⟩ = some (.bool false) := (blk_cell (HP.out.get 1 rfl) 3).trans rfl
        have hfin : ∀ q' : Prop, q' → q' := fun _ h_ => h_
        clear hfin
        cases b with
        | false =>
          go_wp2_with fail
          refine bodyPost_ret (results_cell_row rfl _ _ br 47 #[.int .i64 x.f0, .int .i64 x.f1, .int .i64 x.f2, .int .i64 x.f3, .slice B4 x.f4.length d4] (0, 0) _ rfl ((HP.out.five 0 rfl (.int .i64 x.f0) (.int .i64 x.f1) (.int .i64 x.f2) (.int .i64 x.f3) (.slice B4 x.f4.length d4)).get 0 rfl) Tryd.underlying47 rfl (by kernel_rfl)) rfl ?_
          have ha := (HP.out.five 0 rfl (.int .i64 x.f0) (.int .i64 x.f1) (.int .i64 x.f2) (.int .i64 x.f3) (.slice B4 x.f4.length d4))
          exact ⟨B4, d4, rfl, (RD.out.five (g := br) (fun k hk hlt => by have := hk.2; omega) (.int .i64 x.f0) (.int .i64 x.f1) (.int .i64 x.f2) (.int .i64 x.f3) (.slice B4 x.f4.length d4)).mono (fun k hk => hk.1), fin_mk (by rw [HQ0.out, E2.out]; try rfl) (ha.ru HRU.out 1 rfl) ha.G⟩
        | true =>
          have hn := HBN.out rfl
          subst hn
          go_wp2_with fail
          refine bodyPost_ret (results_cell_row rfl _ _ br 47 #[.int .i64 x.f0, .int .i64 x.f1, .int .i64 x.f2, .int .i64 x.f3, .slice B4 x.f4.length d4] (0, 0) _ rfl ((HP.out.five 0 rfl (.int .i64 x.f0) (.int .i64 x.f1) (.int .i64 x.f2) (.int .i64 x.f3) (.slice B4 x.f4.length d4)).get 0 rfl) Tryd.underlying47 rfl (by kernel_rfl)) rfl ?_
          have ha := (HP.out.five 0 rfl (.int .i64 x.f0) (.int .i64 x.f1) (.int .i64 x.f2) (.int .i64 x.f3) (.slice B4 x.f4.length d4))
          exact ⟨B4, d4, rfl, (RD.out.five (g := br) (fun k hk hlt => by have := hk.2; omega) (.int .i64 x.f0) (.int .i64 x.f1) (.int .i64 x.f2) (.int .i64 x.f3) (.slice B4 x.f4.length d4)).mono (fun k hk => hk.1), fin_mk (by rw [HQ0.out, E2.out]; try rfl) (ha.ru HRU.out 1 rfl) ha.G⟩
    | cons y todo =>
      have HDT2 := Aside0.mk (show (done ++ [y]) ++ todo = x :: L' by rw [List.append_assoc]; exact HDT.out)
      have HYM := Aside0.mk (show y ∈ x :: L' by rw [← HDT.out]; simp)
      have HA2 := Aside0.mk (show At s m0 ((⟨#[32, 38, 32]⟩ : ByteArray).data.toList ++ (f y ++ (tls f sAnd todo ++ rest))) by have h_ := HA.out; rw [tls] at h_; simpa using h_)
      have HA3 := Aside0.mk HA2.out.next
      have HA4 := Aside0.mk HA3.out.next
      have HF2 := Aside0.mk (fol_tls (f := f) (sep := sAnd) ⟨_, rfl⟩ HF.out todo)
      have HTOT2 := Aside0.mk (show m0 + 3 + (f y).length + (tls f sAnd todo).length = m + (Lib.join ((x :: L').map f) sAnd).length by have h_ := HTOT.out; rw [tls, List.length_append, List.length_append] at h_; have e_ : (sAnd).length = 3 := rfl; omega)
      clear HA HTOT HDT
      go_upto_region 4 with (go_at_call 55; refine (yes_calls ⟨#[32, 38, 32]⟩ m0 (by decide) (by decide) HA2.out HQ0.out (HP.out.ru HRU.out 1 rfl)).mono ?_; rintro e w4 ⟨rfl, q2, hq_, hr_, hg_⟩; have n0 := Aside0.mk (HP.out.move 1 rfl hg_ hr_.S); have n1 := Aside0.mk (Kd.N_grown HN.out hg_ (fun k hk he => by injection he with he; have := hk.1; have := LG.out; omega)); clear HP HN; have HP := n0; have HN := n1; clear n0 n1; clear hr_ hg_; have HQ2 := Aside0.mk hq_; clear hq_)
      have LNB := Aside0.mk (show ∀ k, (Value.slice Av done.length cv).ownBlock = some k → k < w4.heap.size from Kd.N_lt HN.out)
      have LB4 := Aside0.mk (HP.out.lt 0 rfl)
      have LW4 := Aside0.mk HP.out.size
      go_wp2_with (first | (go_at_call 70; refine (HS.out y HYM.out _ _ _ _ _ _ _ HA3.out HF2.out HQ2.out (HP.out.ru HRU.out 1 rfl)).mono ?_; rintro e w5 ⟨A1, c1, rfl, hx_, q1, hq_, hr_, hg_⟩; have HX := Aside0.mk hx_; have HQ := Aside0.mk hq_; have LGS := Aside0.mk hg_.size; have n0 := Aside0.mk (HP.out.move 1 rfl hg_ hr_.S); have n1 := Aside0.mk (Kd.N_grown HN.out hg_ (fun k hk he => by injection he with he; have := hk.1; have := LG.out; omega)); clear HP HN; have HP := n0; have HN := n1; clear n0 n1; clear hx_ hq_ hr_ hg_) | ((with_reducible refine gate_builtin (b := .append) (xs := #[.tmp 14, .tmp 17]) rfl ?_); (try (refine gate_guard (by rfl) ?_; dsimp only)); at_builtin; refine Kd.N_append k47 (w0 := w5) w.heap.size rfl (.tmp 14) (.tmp 17) 22 47 (.agg #[.int .i64 0, .int .i64 0, .int .i64 0, .int .i64 0, .slice none 0 0]) 56 rfl Tryd.underlying22 info47o rfl (by decide) (by omega) (.slice Av done.length cv) done y [.int .i64 y.f0, .int .i64 y.f1, .int .i64 y.f2, .int .i64 y.f3, .slice A1 y.f4.length c1] (fun k => w.heap.size ≤ k ∧ br < k) _ rfl (by rfl) (k47_mkF _ _ y HX.out.2 HX.out.1) (fun k hk => ⟨⟨by have h1_ := hk; have h2_ := LW4.out; omega, by have h1_ := hk; have h2_ := LB4.out; omega⟩, fun he => by have h1_ := hk; have h2_ := LNB.out k he.symm; omega⟩) (fun k hk => ⟨Nat.le_trans HP.out.size hk, Nat.lt_of_lt_of_le (HP.out.lt 0 rfl) hk⟩) HN.out (Below.refl _ _) HP.out.size (by have := HLD.out; omega) ?_; intro v1 w6 hn_ hb_ hg_ hat_; have n0 := Aside0.mk (HP.out.row hg_ (fun i h_ => .inl (Kd.N_base HN.out i h_)) (HP.out.apart2 HN.out (fun k hk => Nat.ne_of_gt hk.2) LG.out)); have n1 := Aside0.mk hn_; clear HP HN hn_ hb_ hg_ hat_; have HP := n0; have HN := n1; clear n0 n1))
      go_roundg todo.length
      case measure => have := HTL.out; simp only [List.length_cons] at this; omega
      case rel => exact ⟨_, q1, m0 + 3 + (f y).length, done ++ [y], todo, rfl, HQ, ⟨rfl⟩, HDT2, ⟨by rw [List.length_append]; have := HD1.out; omega⟩, HA4, HTOT2, HN, HP⟩
end Go.Proofs.YtilmjckpphlniaaDoor.PRuleRound
