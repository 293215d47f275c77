/- For ConfFills: CheckSchema and Fill come to an answer; what is filled lacks no default and is filled to itself. -/
import Derived.Test.YtlofkjdcapbohaaGreatDoorPureConfFillsA
import Derived.Test.YtlofkjdcapbohaaGreatDoorCfI
namespace Go.Proofs.YtlofkjdcapbohaaGreatDoor.Pure
open Go.RowKit Go.Proofs.YtlofkjdcapbohaaGreatDoor.PConfKeeps Go.Proofs.YtlofkjdcapbohaaGreatDoorW.PrintWords Go.Proofs.YtlofkjdcapbohaaGreatDoorW.PrintLast Go.Proofs.YtlofkjdcapbohaaGreatDoorW.PrintMore
set_option linter.unusedVariables false
set_option linter.unusedSimpArgs false
theorem ev_uniq {α : Type} {g : Nat → Option α} {r q : α} (h : Ev g r) (h' : Ev g q) : r = q := by
  obtain ⟨a, ha⟩ := h
  obtain ⟨b, hb⟩ := h'
  have h1 := ha (a + b) (by omega)
  rw [hb (a + b) (by omega)] at h1
  injection h1 with h1
  exact h1.symm
theorem rd95_at {l : List S95} {i : Nat} (h : i < l.length) : rd_T95 l (i : Int) = l[i] := by
  unfold rd_T95
  rw [Int.toNat_natCast, List.getD_eq_getElem?_getD, List.getElem?_eq_getElem h]; rfl
theorem rd44_at {l : List S44} {i : Nat} (h : i < l.length) : rd_T44 l (i : Int) = l[i] := by
  unfold rd_T44
  rw [Int.toNat_natCast, List.getD_eq_getElem?_getD, List.getElem?_eq_getElem h]; rfl
theorem star_lv (l : List S95) (hl : l.length ≤ 1000) : ∀ d i : Nat, i + d = l.length → Tt (fun k => conf_hasStar.l0 k l (l.length : Int) (i : Int)) (fun b => b = false → ∀ s ∈ l.drop i, s.f2 = false)
  | 0, i, h => Tt.step (f := fun _ => some false) (fun k => by rw [conf_hasStar.l0, if_neg (by omega)]) (Tt.some (fun _ s hs => by rw [List.drop_eq_nil_of_le (by omega)] at hs; cases hs))
  | d + 1, i, h => by
    have hlt : i < l.length := by omega
    refine Tt.step (fun k => by rw [conf_hasStar.l0, if_pos (by omega), if_pos (by omega), if_pos (by omega), rd95_at hlt, w1 hlt (by omega)]) ?_
    refine Tt.ite (fun _ => Tt.some (fun h_ => by cases h_)) (fun hn => (star_lv l hl d (i + 1) (by omega)).mono (fun b hb h_ s hs => ?_))
    rw [List.drop_eq_getElem_cons hlt] at hs
    rcases List.mem_cons.1 hs with rfl | hs
    · cases hq : (l[i]).f2 with
      | false => rfl
      | true => exact absurd hq hn
    · exact hb h_ s hs
theorem star_tt (l : List S95) (hl : l.length ≤ 1000) : Tt (fun k => conf_hasStar.f k l) (fun b => b = false → ∀ s ∈ l, s.f2 = false) :=
  (star_lv l hl l.length 0 (by omega)).mono (fun b hb h => by have := hb h; rw [List.drop_zero] at this; exact this)
/-! ### fields -/
def FOk (n : Nat) (f : S44) : Prop := Fits n f.f7 ∧ f.f6.length ≤ 140737488351232 ∧ ∀ s ∈ f.f6, s.size ≤ 140737488351232
/-- what a right field has -/
def Right (f : S44) : Prop := ∃ st, Ev (fun k => conf_steps.f k f.f0 true) (st, true) ∧ (f.f7.f0 ≠ 0 → Ev (fun k => Fck k f.f7) 0 ∧ (∀ s ∈ st, SV s) ∧ Ev (fun k => conf_steps.f k f.f0 false) (st, true))
theorem rdOf_mem {l : List ByteArray} {i : Nat} (h : i < l.length) : rdOf ByteArray.empty l (i : Int) ∈ l := by
  rw [rdOf_at h]; exact List.getElem_mem _
theorem one_tt (l : List ByteArray) (hall : ∀ s ∈ l, s.size ≤ 140737488351232) : ∀ d i : Nat, i + d = l.length → Tt (fun k => oneF k l d i) (fun _ => True)
  | 0, i, h => ⟨0, Ev.congr (f := fun _ => some 0) (fun k => by rw [oneF]) (Ev.now _), trivial⟩
  | d + 1, i, h => by
    have hm := hall _ (rdOf_mem (show i < l.length by omega))
    have ih := one_tt l hall d (i + 1) (by omega)
    unfold oneF
    refine Tt.ite (fun _ => Tt.some trivial) (fun _ => Tt.bind (Q := fun _ => True) ?_ (fun b _ _ => Tt.ite (fun _ => Tt.some trivial) (fun _ => ih)))
    exact badBytes_loop (rdOf ByteArray.empty l (i : Int)) (by omega) (rdOf ByteArray.empty l (i : Int)).size 0 (by omega)
theorem ff_tt {n : Nat} (f : S44) (hf : FOk n f) (seen : Bool) : Tt (fun k => fF k f seen) (fun e => e = 0 → Right f) := by
  obtain ⟨h7, h6, hs⟩ := hf
  have bad : ∀ e : Int, e ≠ 0 → Tt (fun _ : Nat => some e) (fun e => e = 0 → Right f) := fun e he => Tt.some (fun h => absurd h he)
  unfold fF
  refine Tt.bind (stepsT_tt f.f0) (fun st hst hq => Tt.ite (fun hok => Tt.ite (fun _ => bad 3 (by decide)) (fun _ => Tt.ite (fun _ => bad 6 (by decide)) (fun _ => ?_))) (fun _ => bad 3 (by decide)))
  obtain ⟨hlen, hstar⟩ := hq hok
  obtain ⟨l, ok⟩ := st
  dsimp only at hok hlen hstar ⊢
  subst hok
  unfold fF2
  refine Tt.ite (fun _ => bad 10 (by decide)) (fun _ => Tt.ite (fun _ => bad 1 (by decide)) (fun _ => Tt.ite (fun _ => bad 5 (by decide)) (fun _ => Tt.ite (fun _ => bad 1 (by decide)) (fun _ => ?_))))
  refine Tt.bind (one_tt f.f6 hs f.f6.length 0 (by omega)) (fun e _ _ => Tt.ite (fun _ => ?_) (fun he => bad e he))
  refine Tt.bind (check_tot h7) (fun e2 hck _ => ?_)
  unfold fF3
  refine Tt.ite (fun he2 => Tt.ite (fun _ => bad 10 (by decide)) (fun _ => Tt.ite (fun h0 => Tt.some (fun _ => ⟨l, hst, fun hn => absurd h0 hn⟩)) (fun hn0 => ?_))) (fun he => bad e2 he)
  subst he2
  refine Tt.bind (star_tt l hlen) (fun b _ hb => Tt.ite (fun _ => bad 1 (by decide)) (fun hnb => Tt.some (fun _ => ?_)))
  have hbf : b = false := by cases b with | false => rfl | true => exact absurd rfl hnb
  obtain ⟨h1, h2⟩ := hstar (hb hbf)
  exact ⟨l, hst, fun _ => ⟨hck, h1, h2⟩⟩
theorem cs_tt {n : Nat} (l : List S44) (hall : ∀ f ∈ l, FOk n f) : ∀ (d i : Nat) (m : MS), i + d = l.length → Tt (fun k => csl k l d i m) (fun e => e = 0 → ∀ f ∈ l.drop i, Right f)
  | 0, i, m, h => ⟨0, Ev.congr (f := fun _ => some 0) (fun k => by rw [csl]) (Ev.now _), fun _ f hf => by rw [List.drop_eq_nil_of_le (by omega)] at hf; cases hf⟩
  | d + 1, i, m, h => by
    have hlt : i < l.length := by omega
    unfold csl
    rw [rd44_at hlt]
    refine Tt.bind (ff_tt l[i] (hall _ (List.getElem_mem hlt)) _) (fun e _ hr => Tt.ite (fun he => ?_) (fun he => Tt.some (fun h_ => absurd h_ he)))
    refine (cs_tt l hall d (i + 1) _ (by omega)).mono (fun e2 h2 h_ f hf => ?_)
    rw [List.drop_eq_getElem_cons hlt] at hf
    rcases List.mem_cons.1 hf with rfl | hf
    · exact hr he
    · exact h2 h_ f hf
theorem cCS_tt {n : Nat} (l : List S44) (hall : ∀ f ∈ l, FOk n f) : Tt (fun k => cCS k l) (fun e => e = 0 → l.length ≤ 100 ∧ ∀ f ∈ l, Right f) := by
  unfold cCS
  exact Tt.ite (fun _ => Tt.some (fun h => by cases h)) (fun hn => (cs_tt l hall l.length 0 [] (by omega)).mono (fun e he h => ⟨by omega, by have := he h; rw [List.drop_zero] at this; exact this⟩))
/-! ### Set, of two checked values -/
theorem set_ok {n : Nat} (hn : n ≤ 2097152) (v x : S25) (route : ByteArray) (l : List S95) (hv : Fits n v) (hx : Fits n x) (h1 : Ev (fun k => Fck k v) 0) (h2 : Ev (fun k => Fck k x) 0) (hst : Ev (fun k => conf_steps.f k route false) (l, true)) (hsv : ∀ s ∈ l, SV s) (hlen : l.length ≤ 1000) :
    Tt (fun k => cSet k v route x) (fun r => (r.2 ≠ 0 ∧ r.1 = z25) ∨ (r.2 = 0 ∧ cset l v x = some (r.1, 0) ∧ Fits (n + 1000) r.1 ∧ Ev (fun k => Fck k r.1) 0)) := by
  have bad : ∀ e : Int, e ≠ 0 → Tt (fun _ : Nat => (some (z25, e) : Option (S25 × Int))) (fun r => (r.2 ≠ 0 ∧ r.1 = z25) ∨ (r.2 = 0 ∧ cset l v x = some (r.1, 0) ∧ Fits (n + 1000) r.1 ∧ Ev (fun k => Fck k r.1) 0)) := fun e he => Tt.some (.inl ⟨he, rfl⟩)
  have hchk : Ev (fun k => chk k [v, x] 2 0) 0 := by
    have hx0 : Ev (fun k => chk k [v, x] 1 1) 0 := by
      refine Ev.congr (f := fun k => (Fck k x).bind fun e => if e = 0 then some 0 else some e) (fun k => by rw [chk]; rfl) ?_
      exact Ev.bind h2 (Ev.now _)
    refine Ev.congr (f := fun k => (Fck k v).bind fun e => if e = 0 then chk k [v, x] 1 1 else some e) (fun k => by rw [chk]; rfl) ?_
    exact Ev.bind h1 (Ev.congr (fun k => if_pos rfl) hx0)
  unfold cSet
  refine Tt.bind ⟨_, hchk, trivial⟩ (Q := fun _ => True) (fun e he _ => ?_)
  have := ev_uniq he hchk
  subst this
  refine Tt.ite (fun _ => ?_) (fun h0 => absurd rfl h0)
  obtain ⟨ka, hka⟩ := h1.rounds
  have gv : Gd v := ⟨8, (check_v (by omega) hv hka).1⟩
  unfold cSet2
  refine Tt.bind ⟨_, hst, trivial⟩ (Q := fun _ => True) (fun st hst2 _ => ?_)
  have := ev_uniq hst2 hst
  subst this
  refine Tt.ite (fun _ => ?_) (fun hn => absurd rfl hn)
  obtain ⟨⟨y, e⟩, hy, hfy⟩ := cset_tot l hsv v gv x
  have hy' : Ev (fun _ : Nat => cset l v x) (y, e) := by rw [hy]; exact Ev.now _
  refine Tt.bind ⟨_, hy', trivial⟩ (Q := fun _ => True) (fun ye hye _ => ?_)
  have := ev_uniq hye hy'
  subst this
  refine Tt.ite (fun he0 => ?_) (fun he0 => bad e he0)
  have hyf := fits_mono (n + l.length) (n + 1000) y (by omega) (hfy n hv hx)
  dsimp only at he0
  subst he0
  obtain ⟨e3, h3, _⟩ := check_tot hyf
  refine Tt.bind ⟨_, h3, trivial⟩ (Q := fun _ => True) (fun e4 h4 _ => ?_)
  unfold cSet3
  refine Tt.ite (fun h0 => ?_) (fun h0 => bad e4 h0)
  subst h0
  obtain ⟨kc, hkc⟩ := h4.rounds
  have gy : Gd y := ⟨8, (check_v (by omega) hyf hkc).1⟩
  exact ⟨(y, 0), Ev.bind (fcl_ev gy) (Ev.now _), .inr ⟨rfl, hy, hyf, h4⟩⟩
theorem chk_gd {n : Nat} (hn : n ≤ 4194304) {v : S25} (hv : Fits n v) (h : Ev (fun k => Fck k v) 0) : Gd v := by
  obtain ⟨k, hk⟩ := h.rounds
  exact ⟨8, (check_v hn hv hk).1⟩
/-! ### Fill -/
def Has (f : S44) (x : S25) : Prop := f.f7.f0 ≠ 0 → ∃ st, Ev (fun k => conf_steps.f k f.f0 true) (st, true) ∧ Ev (fun k => conf_steps.f k f.f0 false) (st, true) ∧ (∀ s ∈ st, SV s) ∧ ∃ g, cget st x = some (g, true)
/-- the steps of a field's route, whatever its stars -/
theorem any_steps (f : S44) : ∃ r, Ev (fun k => conf_steps.f k f.f0 true) r ∧ (r.2 = true → r.1.length ≤ 1000) := by
  obtain ⟨r, hr, hq⟩ := stepsT_tt f.f0
  exact ⟨r, hr, fun h => (hq h).1⟩
def Keeps (v x : S25) : Prop := ∀ t : List S95, (∀ s ∈ t, SV s) → (∃ g, cget t v = some (g, true)) → ∃ g, cget t x = some (g, true)
set_option maxRecDepth 10000 in
theorem fill_lv {n M : Nat} (hM : M ≤ 2097152) (l : List S44) (hall : ∀ f ∈ l, FOk n f) (hr : ∀ f ∈ l, Right f) : ∀ (d i : Nat), i + d = l.length → ∀ (v : S25) (m : Nat), n ≤ m → m + 1000 * d ≤ M → Fits m v → Ev (fun k => Fck k v) 0 →
    Tt (fun k => fillF k l d i v) (fun r => (r.2 ≠ 0 ∧ r.1 = z25) ∨ (r.2 = 0 ∧ Fits M r.1 ∧ Ev (fun k => Fck k r.1) 0 ∧ Keeps v r.1 ∧ ∀ f ∈ l.drop i, Has f r.1))
  | 0, i, h, v, m, hm, hb, hv, hc => by
    have gv := chk_gd (by omega) hv hc
    refine ⟨(v, 0), Ev.congr (f := fun k => (Fcl k v).bind fun c => some (c, 0)) (fun k => by rw [fillF]) (Ev.bind (fcl_ev gv) (Ev.now _)), .inr ⟨rfl, fits_mono _ _ v (by omega) hv, hc, fun t _ h => h, fun f hf => ?_⟩⟩
    rw [List.drop_eq_nil_of_le (by omega)] at hf; cases hf
  | d + 1, i, h, v, m, hm, hb, hv, hc => by
    rw [Nat.mul_add, Nat.mul_one] at hb
    have hlt : i < l.length := by omega
    have hmm : m + 1000 ≤ 4194304 := by omega
    have hm2 : n ≤ m + 1000 := by omega
    have hm3 : m + 1000 + 1000 * d ≤ M := by omega
    have hid : i + 1 + d = l.length := by omega
    have hF := hall _ (List.getElem_mem hlt)
    have hR := hr _ (List.getElem_mem hlt)
    have gv := chk_gd (by omega) hv hc
    have up : ∀ (r : S25 × Int), Has l[i] r.1 → ((r.2 ≠ 0 ∧ r.1 = z25) ∨ (r.2 = 0 ∧ Fits M r.1 ∧ Ev (fun k => Fck k r.1) 0 ∧ Keeps v r.1 ∧ ∀ f ∈ l.drop (i + 1), Has f r.1)) → ((r.2 ≠ 0 ∧ r.1 = z25) ∨ (r.2 = 0 ∧ Fits M r.1 ∧ Ev (fun k => Fck k r.1) 0 ∧ Keeps v r.1 ∧ ∀ f ∈ l.drop i, Has f r.1)) := fun r hh hq => by
      rcases hq with hq | ⟨h1, h2, h3, h4, h5⟩
      · exact .inl hq
      · refine .inr ⟨h1, h2, h3, h4, fun f hf => ?_⟩
        rw [List.drop_eq_getElem_cons hlt] at hf
        rcases List.mem_cons.1 hf with rfl | hf
        · exact hh
        · exact h5 f hf
    obtain ⟨st, hst, hok⟩ := hR
    have ef : rd_T44 l (i : Int) = l[i] := rd44_at hlt
    generalize l[i] = f at hF hok hst up ef
    unfold fillF
    rw [ef]
    refine Tt.bind ⟨_, hst, trivial⟩ (Q := fun _ => True) (fun st2 hst2 _ => ?_)
    have := ev_uniq hst2 hst
    subst this
    refine Tt.ite (fun h0 => (fill_lv hM l hall hr d (i + 1) (by omega) v m hm (by omega) hv hc).mono (fun r hq => up r (fun hn => absurd h0 hn) hq)) (fun h0 => ?_)
    obtain ⟨hck, hsv, hsf⟩ := hok h0
    obtain ⟨⟨g, gb⟩, hg, gg⟩ := cget_tot st hsv v gv
    dsimp only
    rw [hg]
    simp only [Option.bind_some]
    refine Tt.ite (fun hgb => ?_) (fun hgb => ?_)
    · subst hgb
      refine (fill_lv hM l hall hr d (i + 1) (by omega) v m hm (by omega) hv hc).mono (fun r hq => ?_)
      rcases hq with hq | hq
      · exact .inl hq
      · exact up r (fun _ => ⟨st, hst, hsf, hsv, hq.2.2.2.1 st hsv ⟨g, hg⟩⟩) (.inr hq)
    · have hgf : gb = false := by cases gb with | false => rfl | true => exact absurd rfl hgb
      subst hgf
      have hlen : st.length ≤ 1000 := by
        obtain ⟨r, h1, h2⟩ := any_steps f
        have := ev_uniq h1 hst
        subst this
        exact h2 rfl
      refine Tt.bind (set_ok (n := m) (by omega) v f.f7 f.f0 st hv (fits_mono _ _ _ hm hF.1) hc hck hsf hsv hlen) (fun s hs hq => Tt.ite (fun hs0 => ?_) (fun hs0 => ?_))
      · rcases hq with hq | ⟨_, h1, h2, h3⟩
        · exact absurd hs0 hq.1
        · have gs : Gd s.1 := chk_gd (n := m + 1000) hmm h2 h3
          have hfd := cget_cset st hsv v gv f.f7 s.1 h1 gs
          have hkp : Keeps v s.1 := fun t ht hf => keep st hsv v gv f.f7 s.1 h1 gs ⟨g, hg⟩ t ht hf
          refine (fill_lv hM l hall hr d (i + 1) hid s.1 (m + 1000) hm2 hm3 h2 h3).mono (fun r hq => ?_)
          rcases hq with hq | ⟨a1, a2, a3, a4, a5⟩
          · exact .inl hq
          · exact up r (fun _ => ⟨st, hst, hsf, hsv, a4 st hsv ⟨_, hfd⟩⟩) (.inr ⟨a1, a2, a3, fun t ht hf => a4 t ht (hkp t ht hf), a5⟩)
      · exact Tt.some (.inl ⟨hs0, rfl⟩)
theorem fill_again (l : List S44) (hr : ∀ f ∈ l, Right f) (x : S25) (gx : Gd x) (hh : ∀ f ∈ l, Has f x) : ∀ (d i : Nat), i + d = l.length → Ev (fun k => fillF k l d i x) (x, 0)
  | 0, i, h => Ev.congr (f := fun k => (Fcl k x).bind fun c => some (c, 0)) (fun k => by rw [fillF]) (Ev.bind (fcl_ev gx) (Ev.now _))
  | d + 1, i, h => by
    have hlt : i < l.length := by omega
    have ih := fill_again l hr x gx hh d (i + 1) (by omega)
    obtain ⟨st, hst, _⟩ := hr _ (List.getElem_mem hlt)
    have hh1 := hh _ (List.getElem_mem hlt)
    unfold fillF
    rw [rd44_at hlt]
    refine Ev.bind hst ?_
    by_cases h0 : (l[i]).f7.f0 = 0
    · exact Ev.congr (fun k => if_pos h0) ih
    · obtain ⟨st2, hs2, _, _, g, hg⟩ := hh1 h0
      have := ev_uniq hst hs2
      injection this with this _
      subst this
      refine Ev.congr (fun k => ?_) ih
      rw [if_neg h0]
      dsimp only
      rw [hg, Option.bind_some, if_pos rfl]
theorem get_some {x : S25} {n : Nat} (hn : n ≤ 4194304) (hx : Fits n x) (hc : Ev (fun k => Fck k x) 0) (f : S44) (hh : Has f x) : ∃ g, Ev (fun k => cGet k x f.f0) g ∧ (f.f7.f0 ≠ 0 → g.2 = 0) := by
  have gx := chk_gd hn hx hc
  by_cases h0 : f.f7.f0 = 0
  · obtain ⟨⟨l, ok⟩, hst, hq⟩ := steps_tt f.f0
    have : ∃ g, Ev (fun k => cGet k x f.f0) g := by
      unfold cGet
      cases ok with
      | false => exact ⟨_, Ev.bind hc (Ev.congr (fun k => if_pos rfl) (Ev.bind hst (Ev.congr (fun k => if_neg (fun h_ => by cases h_)) (Ev.now (z25, 3)))))⟩
      | true =>
        obtain ⟨_, hsv⟩ := hq rfl
        obtain ⟨⟨g, gb⟩, hg, gg⟩ := cget_tot l hsv x gx
        cases gb with
        | false =>
          refine ⟨(z25, 7), Ev.bind hc (Ev.congr (fun k => if_pos rfl) (Ev.bind hst (Ev.congr (fun k => if_pos rfl) ?_)))⟩
          dsimp only
          rw [hg]
          simp only [Option.bind_some]
          exact Ev.congr (fun k => if_neg (fun h_ => by cases h_)) (Ev.now _)
        | true =>
          refine ⟨(g, 0), Ev.bind hc (Ev.congr (fun k => if_pos rfl) (Ev.bind hst (Ev.congr (fun k => if_pos rfl) ?_)))⟩
          dsimp only
          rw [hg]
          simp only [Option.bind_some, if_true]
          exact Ev.bind (fcl_ev gg) (Ev.now _)
    obtain ⟨g, hg⟩ := this
    exact ⟨g, hg, fun hn => absurd h0 hn⟩
  · obtain ⟨st, _, hs, hsv, g, hg⟩ := hh h0
    obtain ⟨g2, h1, h2⟩ := cget_tot st hsv x gx
    rw [hg] at h1
    injection h1 with h1
    subst h1
    exact ⟨(g, 0), cGet_ev hc hs hg h2, fun _ => rfl⟩
theorem all_ev2 {x : S25} : ∀ (l : List S44), (∀ f ∈ l, ∃ g, Ev (fun k => cGet k x f.f0) g ∧ (f.f7.f0 ≠ 0 → g.2 = 0)) → ∃ K, ∀ k, K ≤ k → ∀ f ∈ l, ∃ g, cGet k x f.f0 = some g ∧ (f.f7.f0 ≠ 0 → g.2 = 0)
  | [], _ => ⟨0, fun k _ a ha => by cases ha⟩
  | a :: l, h => by
    obtain ⟨b, ⟨K1, h1⟩, hp⟩ := h a (List.mem_cons_self ..)
    obtain ⟨K2, h2⟩ := all_ev2 l (fun c hc => h c (List.mem_cons_of_mem _ hc))
    refine ⟨K1 + K2, fun k hk c hc => ?_⟩
    rcases List.mem_cons.1 hc with rfl | hc
    · exact ⟨b, h1 k (by omega), hp⟩
    · exact h2 k (by omega) c hc
/-- the law, of what the walk computes -/
theorem ConfFills {n : Nat} (hn : n ≤ 1900000) (l : List S44) (v : S25) (hall : ∀ f ∈ l, FOk n f) (hv : Fits n v) :
    (∃ k s er, cFill k l v = some (s, er) ∧ er ≠ 0 ∧ Fsm k s z25 = some true) ∨
    (∃ k x, cFill k l v = some (x, 0) ∧ cFill k l x = some (x, 0) ∧ Fsm k x x = some true ∧ ∀ f ∈ l, ∃ g, cGet k x f.f0 = some g ∧ (f.f7.f0 ≠ 0 → g.2 = 0)) := by
  obtain ⟨K0, h0⟩ := same_ev (fits_z 1 (Nat.le_refl _))
  have bad : ∀ e : Int, e ≠ 0 → Ev (fun k => cFill k l v) (z25, e) → (∃ k s er, cFill k l v = some (s, er) ∧ er ≠ 0 ∧ Fsm k s z25 = some true) := fun e he ⟨K, h⟩ => ⟨K + K0, z25, e, h _ (by omega), he, h0 _ (by omega)⟩
  obtain ⟨e1, h1, hq1⟩ := cCS_tt l hall
  by_cases c1 : e1 = 0
  case neg => exact .inl (bad e1 c1 (by unfold cFill; exact Ev.bind h1 (Ev.congr (fun k => if_neg c1) (Ev.now _))))
  subst c1
  obtain ⟨hl, hr⟩ := hq1 rfl
  obtain ⟨e2, h2, _⟩ := check_tot hv
  by_cases c2 : e2 = 0
  case neg => exact .inl (bad e2 c2 (by unfold cFill; exact Ev.bind h1 (Ev.congr (fun k => if_pos rfl) (Ev.bind h2 (Ev.congr (fun k => if_neg c2) (Ev.now _))))))
  subst c2
  obtain ⟨⟨x, e⟩, h3, hq⟩ := fill_lv (M := 2097152) (Nat.le_refl _) l hall hr l.length 0 (by omega) v n (Nat.le_refl _) (by omega) hv h2
  have h4 : Ev (fun k => cFill k l v) (x, e) := by unfold cFill; exact Ev.bind h1 (Ev.congr (fun k => if_pos rfl) (Ev.bind h2 (Ev.congr (fun k => if_pos rfl) h3)))
  rcases hq with ⟨he, hz⟩ | ⟨he, hx, hc, _, hh⟩
  · dsimp only at he hz
    subst hz
    exact .inl (bad e he h4)
  · dsimp only at he hx hc hh
    subst he
    rw [List.drop_zero] at hh
    have gx := chk_gd (by omega) hx hc
    have h5 := fill_again l hr x gx hh l.length 0 (by omega)
    have h6 : Ev (fun k => cFill k l x) (x, 0) := by unfold cFill; exact Ev.bind h1 (Ev.congr (fun k => if_pos rfl) (Ev.bind hc (Ev.congr (fun k => if_pos rfl) h5)))
    obtain ⟨K1, a1⟩ := h4
    obtain ⟨K2, a2⟩ := h6
    obtain ⟨K3, a3⟩ := same_ev hx
    obtain ⟨K4, a4⟩ := all_ev2 l (fun f hf => get_some (by omega) hx hc f (hh f hf))
    refine .inr ⟨K1 + K2 + K3 + K4, x, a1 _ (by omega), a2 _ (by omega), a3 _ (by omega), fun f hf => a4 _ (by omega) f hf⟩
end Go.Proofs.YtlofkjdcapbohaaGreatDoor.Pure
