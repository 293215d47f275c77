/- For ConfFills: steps with stars; what has been found is found after a set that did not find its own. -/
import Derived.Test.YtlofkjdcapbohaaGreatDoorPureConfKeeps
namespace Go.Proofs.YtlofkjdcapbohaaGreatDoor.Pure
open Go.RowKit Go.Proofs.YtlofkjdcapbohaaGreatDoor.PConfKeeps Go.Proofs.YtlofkjdcapbohaaGreatDoorW.PrintWords Go.Proofs.YtlofkjdcapbohaaGreatDoorW.PrintLast Go.Proofs.YtlofkjdcapbohaaGreatDoorW.PrintMore
set_option linter.unusedVariables false
set_option linter.unusedSimpArgs false
/-! ### steps with stars -/
theorem stepsT_lv (ps : List ByteArray) (hp : ps.length ≤ 1000) (hsz : ∀ p ∈ ps, p.size ≤ 400) : ∀ (d i : Nat), i + d = ps.length → ∀ acc : List S95, acc.length ≤ i →
    Tt (fun k => conf_steps.l0 k true acc ps (ps.length : Int) (i : Int)) (fun r => r.2 = true → ∃ more, r.1 = acc ++ more ∧ more.length ≤ d ∧ ((∀ s ∈ more, s.f2 = false) → (∀ s ∈ more, SV s) ∧ Ev (fun k => conf_steps.l0 k false acc ps (ps.length : Int) (i : Int)) (acc ++ more, true)))
  | 0, i, h, acc, ha => Tt.step (f := fun _ => some (acc, true)) (fun k => by rw [conf_steps.l0, if_neg (by omega)]) (Tt.some (fun _ => ⟨[], by simp, by simp, fun _ => ⟨fun s hs => (by cases hs), Ev.step (f := fun _ => some (acc ++ [], true)) (fun k => by rw [conf_steps.l0, if_neg (by omega), List.append_nil]) (Ev.now _)⟩⟩))
  | d + 1, i, h, acc, ha => by
    have hlt : i < ps.length := by omega
    have hs := hsz _ (List.getElem_mem hlt)
    have nx : ∀ s : S95, (s.f2 = true ∨ (SV s ∧ ∀ R, Ev (fun k => conf_steps.l0 k false (acc ++ [s]) ps (ps.length : Int) ((i + 1 : Nat) : Int)) R → Ev (fun k => conf_steps.l0 k false acc ps (ps.length : Int) (i : Int)) R)) →
        Tt (fun k => conf_steps.l0 k true (acc ++ [s]) ps (ps.length : Int) ((i + 1 : Nat) : Int)) (fun r => r.2 = true → ∃ more, r.1 = acc ++ more ∧ more.length ≤ d + 1 ∧ ((∀ s ∈ more, s.f2 = false) → (∀ s ∈ more, SV s) ∧ Ev (fun k => conf_steps.l0 k false acc ps (ps.length : Int) (i : Int)) (acc ++ more, true))) := fun s hsv =>
      (stepsT_lv ps hp hsz d (i + 1) (by omega) (acc ++ [s]) (by rw [List.length_append]; simp; omega)).mono (fun r hr h2 => by
        obtain ⟨more, e, hl, hm⟩ := hr h2
        refine ⟨s :: more, by rw [e, List.append_assoc]; rfl, by simp; omega, fun hst => ?_⟩
        rcases hsv with h_ | ⟨hsv, hlift⟩
        · have := hst s (List.mem_cons_self ..)
          rw [h_] at this; cases this
        · obtain ⟨hm1, hm2⟩ := hm (fun q hq => hst q (List.mem_cons_of_mem _ hq))
          refine ⟨fun q hq => ?_, ?_⟩
          · rcases List.mem_cons.1 hq with rfl | hq
            · exact hsv
            · exact hm1 q hq
          · rw [List.append_assoc] at hm2
            exact hlift _ hm2)
    have bad : Tt (fun _ => some (([] : List S95), false)) (fun r => r.2 = true → ∃ more, r.1 = acc ++ more ∧ more.length ≤ d + 1 ∧ ((∀ s ∈ more, s.f2 = false) → (∀ s ∈ more, SV s) ∧ Ev (fun k => conf_steps.l0 k false acc ps (ps.length : Int) (i : Int)) (acc ++ more, true))) := Tt.some (fun h => by cases h)
    have hz : (⟨#[]⟩ : ByteArray).size ≤ 400 := Nat.zero_le _
    refine Tt.step (fun k => by rw [conf_steps.l0, if_pos (by omega), if_pos (by omega), if_pos (by omega), rdOf_at hlt, w1 hlt (by omega)]) ?_
    refine Tt.bind (key_tt ps[i] (by omega)) (fun b hkb _ => ?_)
    cases b with
    | true =>
      refine Tt.ite (fun _ => Tt.ite (fun _ => nx ⟨ps[i], 0, false⟩ (.inr ⟨⟨fun _ => Int.le_refl _, hs⟩, fun R hR => ?_⟩)) (fun hn => absurd (by omega) hn)) (fun hn => absurd rfl hn)
      refine Ev.step (fun k => by rw [conf_steps.l0, if_pos (by omega), if_pos (by omega), if_pos (by omega), rdOf_at hlt, w1 hlt (by omega)]) (Ev.bind hkb (Ev.congr (fun k => ?_) hR))
      rw [if_pos rfl, if_pos (by omega)]
    | false =>
      refine Tt.ite (fun hn => absurd hn (by decide)) (fun _ => Tt.ite (fun _ => ?_) (fun hn => absurd rfl hn))
      have lf : ∀ R, Ev (fun k => conf_steps.j1 k false acc ps[i] ps (ps.length : Int) (i : Int) false) R → Ev (fun k => conf_steps.l0 k false acc ps (ps.length : Int) (i : Int)) R := fun R hR =>
        Ev.step (fun k => by rw [conf_steps.l0, if_pos (by omega), if_pos (by omega), if_pos (by omega), rdOf_at hlt, w1 hlt (by omega)]) (Ev.bind hkb (Ev.congr (fun k => by rw [if_neg (by decide), if_neg (by decide)]) hR))
      cases hst : (ps[i].toList == ([42] : List UInt8)) with
      | true => exact Tt.step (fun k => by rw [conf_steps.j1, if_pos rfl, w1 hlt (by omega)]) (Tt.ite (fun _ => nx ⟨⟨#[]⟩, 0, true⟩ (.inl rfl)) (fun hn => absurd (by omega) hn))
      | false =>
        refine Tt.step (f := fun k => _) (fun k => by rw [conf_steps.j1, if_neg (by decide), w1 hlt (by omega)]) ?_
        refine Tt.ite (fun _ => bad) (fun hne => Tt.ite (fun _ => bad) (fun h4 => ?_))
        have h0 := tl_ne hne
        refine Tt.bind (int_tt ps[i] (by omega) h0) (fun b2 hb2e hi => Tt.ite (fun hb2 => Tt.ite (fun _ => Tt.ite (fun _ => bad) (fun h45 => ?_)) (fun hn => absurd (by omega) hn)) (fun _ => bad))
        have hall := hi h45
        rw [hb2] at hall
        subst hb2
        obtain ⟨n, hn, _⟩ := atoi_all ps[i] (by omega) h0 hall.symm
        have lift : (bt ps[i] 0 = 48 → ps[i].toList = ([48] : List UInt8)) → ∀ R, Ev (fun k => conf_steps.l0 k false (acc ++ [(⟨⟨#[]⟩, (n : Int), false⟩ : S95)]) ps (ps.length : Int) ((i + 1 : Nat) : Int)) R → Ev (fun k => conf_steps.l0 k false acc ps (ps.length : Int) (i : Int)) R := fun hq R hR => by
          refine lf R (Ev.step (fun k => by rw [conf_steps.j1, if_neg (by decide), if_neg hne, if_neg h4, w1 hlt (by omega)]) (Ev.bind hb2e (Ev.congr (fun k => ?_) hR)))
          rw [if_pos rfl, if_pos (by omega), if_neg h45]
          by_cases h48 : bt ps[i] 0 = 48
          · rw [if_pos h48, if_pos (hq h48), hn, Option.bind_some, if_pos (by omega)]
          · rw [if_neg h48, hn, Option.bind_some, if_pos (by omega)]
        have at_ : (bt ps[i] 0 = 48 → ps[i].toList = ([48] : List UInt8)) → Tt (fun k => (strconv_Atoi.f ps[i]).bind fun bt145 => (if acc.length < 4398046511104 then (conf_steps.l0 k true (acc ++ [(⟨(⟨#[]⟩ : ByteArray), bt145.1, false⟩ : S95)]) ps (ps.length : Int) ((i + 1 : Nat) : Int)) else none)) (fun r => r.2 = true → ∃ more, r.1 = acc ++ more ∧ more.length ≤ d + 1 ∧ ((∀ s ∈ more, s.f2 = false) → (∀ s ∈ more, SV s) ∧ Ev (fun k => conf_steps.l0 k false acc ps (ps.length : Int) (i : Int)) (acc ++ more, true))) := fun hq => by
          rw [hn]
          simp only [Option.bind_some]
          exact Tt.ite (fun _ => nx ⟨⟨#[]⟩, (n : Int), false⟩ (.inr ⟨⟨fun _ => Int.natCast_nonneg n, hz⟩, lift hq⟩)) (fun hn => absurd (by omega) hn)
        exact Tt.ite (fun h48 => Tt.ite (fun hq => at_ (fun _ => hq)) (fun _ => bad)) (fun h48 => at_ (fun h_ => absurd h_ h48))
theorem stepsT_tt (route : ByteArray) : Tt (fun k => conf_steps.f k route true) (fun r => r.2 = true → r.1.length ≤ 1000 ∧ ((∀ s ∈ r.1, s.f2 = false) → (∀ s ∈ r.1, SV s) ∧ Ev (fun k => conf_steps.f k route false) (r.1, true))) := by
  unfold conf_steps.f
  by_cases h4 : (route.size : Int) > 400
  · exact Tt.ite (fun _ => Tt.some (fun h => by cases h)) (fun hn => absurd h4 hn)
  refine Tt.ite (fun hn => absurd hn h4) (fun _ => ?_)
  by_cases hne : route.toList = ([] : List UInt8)
  · exact Tt.ite (fun _ => Tt.some (fun _ => ⟨Nat.zero_le _, fun _ => ⟨fun s hs => (by cases hs), Ev.congr (f := fun _ => some (([] : List S95), true)) (fun k => by rw [if_neg h4, if_pos hne]) (Ev.now _)⟩⟩)) (fun hn => absurd hne hn)
  refine Tt.ite (fun hn => absurd hn hne) (fun _ => ?_)
  have hs : strings_Split.f route (⟨#[46]⟩ : ByteArray) = some (cutB 46 route) := by
    unfold strings_Split.f
    rw [if_pos ⟨rfl, by omega⟩]; rfl
  rw [hs]
  simp only [Option.bind_some]
  have hlen : (cutB 46 route).length ≤ 1000 := by
    rw [cutB_len]
    have := countByte_le route.data.toList 46
    have := Lib.size_eq route
    omega
  refine (stepsT_lv (cutB 46 route) hlen (fun p hp => ?_) (cutB 46 route).length 0 (by omega) [] (Nat.le_refl _)).mono (fun r hr h => ?_)
  · unfold cutB at hp
    obtain ⟨q, hq, rfl⟩ := List.mem_map.1 hp
    have := cutAll_mem 46 _ q hq
    have h2 := Lib.size_eq route
    show q.toArray.size ≤ 400
    rw [List.size_toArray]
    omega
  · obtain ⟨more, e, hl, hm⟩ := hr h
    rw [List.nil_append] at e
    rw [e]
    refine ⟨by omega, fun hst => ?_⟩
    obtain ⟨h1, h2⟩ := hm hst
    rw [List.nil_append] at h2
    exact ⟨h1, Ev.congr (fun k => by rw [if_neg h4, if_neg hne]; rfl) h2⟩
/-! ### what is found is kept -/
theorem find_true {v : S25} {key : ByteArray} {i : Nat} (h : conf_find.f v.f0 v.f1 v.f2 v.f3 v.f4 v.f5 key = some ((i : Int), true)) : ∃ hi : i < v.f5.length, v.f5[i] = key := by
  unfold conf_find.f at h
  obtain ⟨t, _, h⟩ := Option.bind_eq_some_iff.1 h
  split at h
  · rename_i h1
    split at h
    · injection h with h
      injection h with h2 h3
      subst h2
      have hi : i < v.f5.length := by omega
      rw [rdOf_at hi, beq_iff_eq] at h3
      exact ⟨hi, tl_inj h3⟩
    · cases h
  · injection h with h
    injection h with h2 h3
    cases h3
theorem cget_tot : ∀ (l : List S95), (∀ s ∈ l, SV s) → ∀ v, Gd v → ∃ g, cget l v = some g ∧ Gd g.1
  | [], _, v, hg => ⟨(v, true), by rw [cget], hg⟩
  | s :: l, hl, v, hg => by
    obtain ⟨o, ho, hm⟩ := follow_tot hg (hl s (List.mem_cons_self ..))
    obtain ⟨g, h1, h2⟩ := cget_tot l (fun q hq => hl q (List.mem_cons_of_mem _ hq)) o.1 (gd_follow hg hm)
    rw [cget, ho, Option.bind_some]
    by_cases c : o.2 = true
    · rw [if_pos c]; exact ⟨g, h1, h2⟩
    · rw [if_neg c]; exact ⟨_, rfl, ⟨1, good_z⟩⟩
/-- a step that is found: what it is -/
theorem follow_true {v o : S25} {s : S95} (hg : Gd v) (hs : SV s) (h : cfollow v s = some (o, true)) :
    (s.f0.toList = [] ∧ v.f0 = 5 ∧ ∃ i : Nat, s.f1 = (i : Int) ∧ v.f4[i]? = some o) ∨ (s.f0.toList ≠ [] ∧ v.f0 = 6 ∧ ∃ i : Nat, v.f5[i]? = some s.f0 ∧ v.f4[i]? = some o) := by
  unfold cfollow at h
  by_cases c1 : s.f0.toList = []
  · rw [if_pos c1] at h
    by_cases c2 : v.f0 = 5
    · rw [if_pos c2] at h
      by_cases c3 : s.f1 < (v.f4.length : Int)
      · rw [if_pos c3, if_pos (hs.1 c1)] at h
        injection h with h
        injection h with h _
        obtain ⟨i, hi⟩ := Int.eq_ofNat_of_zero_le (hs.1 c1)
        have hl : i < v.f4.length := by omega
        rw [hi, rd25_at hl] at h
        exact .inl ⟨c1, c2, i, hi, by rw [List.getElem?_eq_getElem hl, h]⟩
      · rw [if_neg c3] at h; cases h
    · rw [if_neg c2] at h; cases h
  · rw [if_neg c1] at h
    by_cases c2 : v.f0 = 6
    · rw [if_pos c2] at h
      obtain ⟨i, b, hf, h1, h2⟩ := find_tot v s.f0 (by have := hg.keys; omega)
      rw [hf, Option.bind_some] at h
      cases b with
      | true =>
        have hl := hg.node.1.ln c2
        have hi := h2 rfl
        have hi4 : i < v.f4.length := by omega
        rw [if_pos rfl, if_pos (by omega), if_pos (by omega)] at h
        injection h with h
        injection h with h _
        rw [rd25_at hi4] at h
        obtain ⟨h5, he⟩ := find_true hf
        exact .inr ⟨c1, c2, i, by rw [List.getElem?_eq_getElem h5, he], by rw [List.getElem?_eq_getElem hi4, h]⟩
      | false => rw [if_neg (fun h_ => by cases h_)] at h; cases h
    · rw [if_neg c2] at h; cases h
theorem follow_row {y o : S25} {s : S95} {i : Nat} (h1 : s.f0.toList = []) (h2 : y.f0 = 5) (h3 : s.f1 = (i : Int)) (h4 : y.f4[i]? = some o) : cfollow y s = some (o, true) := by
  obtain ⟨hl, he⟩ := List.getElem?_eq_some_iff.1 h4
  unfold cfollow
  rw [if_pos h1, if_pos h2, h3, if_pos (by omega), if_pos (by omega), rd25_at hl, he]
theorem follow_key {y o : S25} {s : S95} {i : Nat} (hy : Gd y) (h1 : s.f0.toList ≠ []) (h2 : y.f0 = 6) (h3 : y.f5[i]? = some s.f0) (h4 : y.f4[i]? = some o) : cfollow y s = some (o, true) := by
  obtain ⟨hl, he⟩ := List.getElem?_eq_some_iff.1 h4
  obtain ⟨hl5, he5⟩ := List.getElem?_eq_some_iff.1 h3
  unfold cfollow
  rw [if_neg h1, if_pos h2, find_at y s.f0 i hl5 hy.node.1.so he5 (by have := hy.keys; omega), Option.bind_some, if_pos rfl, if_pos (by omega), if_pos (by omega), rd25_at hl, he]
/-- the other cells of a row with one cell put in or written anew -/
theorem put_other {α : Type} (u : List α) (x : α) (i : Nat) (b : Bool) (hi : i ≤ u.length) (j : Nat) (a : α) (ha : u[j]? = some a) (hne : b = true → j ≠ i) :
    (u.take i ++ [x] ++ u.drop (if b = true then i + 1 else i))[if j < i then j else if b = true then j else j + 1]? = some a := by
  have hj := (List.getElem?_eq_some_iff.1 ha).1
  by_cases c : j < i
  · rw [if_pos c, List.append_assoc, List.getElem?_append_left (by rw [List.length_take]; omega), List.getElem?_take, if_pos c, ha]
  · rw [if_neg c]
    cases b with
    | true =>
      have := hne rfl
      rw [if_pos rfl, if_pos rfl, List.getElem?_append_right (by rw [List.length_append, List.length_take, List.length_singleton]; omega), List.length_append, List.length_take, List.length_singleton, List.getElem?_drop, ← ha]
      congr 1; omega
    | false =>
      rw [if_neg (by decide), if_neg (by decide), List.getElem?_append_right (by rw [List.length_append, List.length_take, List.length_singleton]; omega), List.length_append, List.length_take, List.length_singleton, List.getElem?_drop, ← ha]
      congr 1; omega
theorem put_here {α : Type} (u : List α) (x : α) (i : Nat) (r : List α) (hi : i ≤ u.length) : (u.take i ++ [x] ++ r)[i]? = some x := by
  rw [List.append_assoc, List.getElem?_append_right (by rw [List.length_take]; omega), List.length_take, Nat.min_eq_left hi, Nat.sub_self]; rfl
theorem put_tot2 {u : S25} (hg : Gd u) (h6 : u.f0 = 6) (key : ByteArray) (y : S25) : ∃ (i : Nat) (b : Bool), i ≤ u.f5.length ∧ i ≤ u.f4.length ∧ (b = true → u.f5[i]? = some key) ∧
    cput u key y = some ⟨6, false, 0, ⟨#[]⟩, u.f4.take i ++ [y] ++ u.f4.drop (if b = true then i + 1 else i), u.f5.take i ++ [key] ++ u.f5.drop (if b = true then i + 1 else i)⟩ := by
  obtain ⟨i, b, hf, h1, h2⟩ := find_tot u key (by have := hg.keys; omega)
  have hl := hg.node.1.ln h6
  have h4 := hg.node.2
  refine ⟨i, b, h1, by omega, fun hb => ?_, ?_⟩
  · subst hb
    obtain ⟨h5, he⟩ := find_true hf
    rw [List.getElem?_eq_getElem h5, he]
  · unfold cput
    rw [hf, Option.bind_some, if_pos ⟨by omega, by omega, by omega, by omega, by omega, fun hb => by have := h2 hb; omega⟩]
    rfl
/-- the set of what was not found keeps what was -/
theorem keep : ∀ (l : List S95) (hl : ∀ s ∈ l, SV s) (v : S25) (hg : Gd v) (x y : S25), cset l v x = some (y, 0) → Gd y → (∃ g, cget l v = some (g, false)) → ∀ (t : List S95) (ht : ∀ s ∈ t, SV s), (∃ g, cget t v = some (g, true)) → ∃ g, cget t y = some (g, true)
  | l, _, v, _, x, y, _, _, _, [], _, _ => ⟨y, by rw [cget]⟩
  | [], _, v, _, x, y, _, _, ⟨g, hn⟩, t, _, _ => by rw [cget] at hn; injection hn with hn; injection hn with _ hn; cases hn
  | s :: l, hl, v, hg, x, y, h, hy, ⟨gn, hn⟩, r :: t, ht, ⟨g, hf⟩ => by
    have hs := hl s (List.mem_cons_self ..)
    have hr := ht r (List.mem_cons_self ..)
    rw [cget] at hf
    obtain ⟨⟨o, ob⟩, hfo, hf⟩ := Option.bind_eq_some_iff.1 hf
    cases ob with
    | false => rw [if_neg (fun h_ => by cases h_)] at hf; injection hf with hf; injection hf with _ hf; cases hf
    | true =>
    rw [if_pos rfl] at hf
    have fin : ∀ o', cfollow y r = some (o', true) → (∃ g, cget t o' = some (g, true)) → ∃ g, cget (r :: t) y = some (g, true) := fun o' h1 ⟨g, h2⟩ => ⟨g, by rw [cget, h1, Option.bind_some, if_pos rfl]; exact h2⟩
    have same : cfollow y r = some (o, true) → ∃ g, cget (r :: t) y = some (g, true) := fun h1 => fin o h1 ⟨g, hf⟩
    have hrt := follow_true hg hr hfo
    have hv : v.f0 ≠ 0 := by rcases hrt with h_ | h_ <;> rw [h_.2.1] <;> decide
    rw [cset, cset1] at h
    have hu : cval v (ckind s) = v := by unfold cval; rw [if_neg hv]
    rw [hu] at h
    have hk : ckind s = 5 ∧ s.f0.toList = [] ∨ ckind s = 6 ∧ s.f0.toList ≠ [] := by unfold ckind; split <;> simp_all
    generalize ckind s = kd at hk h
    by_cases c1 : v.f0 = kd
    case neg => rw [if_neg c1] at h; exact (ne_zero_of (by decide) h).elim
    rw [if_pos c1] at h
    by_cases c2 : kd = 5 ∧ (v.f4.length : Int) < s.f1
    case pos => rw [if_pos c2] at h; exact (ne_zero_of (by decide) h).elim
    rw [if_neg c2, cset2] at h
    obtain ⟨o1, ho, hm⟩ := follow_tot hg hs
    rw [ho, Option.bind_some] at h
    obtain ⟨⟨y1, e1⟩, hy1, h⟩ := Option.bind_eq_some_iff.1 h
    by_cases c3 : e1 = 0
    case neg => rw [if_neg c3] at h; exact (ne_zero_of c3 h).elim
    subst c3
    rw [if_pos rfl, cset3] at h
    -- where the two steps are one
    have ih : ∀ q, cfollow v s = some (q, true) → o = q → Gd y1 → ∃ g, cget t y1 = some (g, true) := fun q hq he hgy => by
      rw [ho] at hq
      injection hq with hq
      subst he
      have h1 : o1.1 = o := by rw [hq]
      have hnn : ∃ g, cget l o = some (g, false) := by
        rw [cget, ho, hq, Option.bind_some, if_pos rfl] at hn
        exact ⟨gn, hn⟩
      rw [h1] at hy1
      exact keep l (fun q hq => hl q (List.mem_cons_of_mem _ hq)) o (h1 ▸ gd_follow hg hm) x y1 hy1 hgy hnn t (fun q hq => ht q (List.mem_cons_of_mem _ hq)) ⟨g, hf⟩
    by_cases c4 : kd = 6
    · rw [if_pos c4] at h
      obtain ⟨i, b, h1, h2, hib, hp⟩ := put_tot2 hg (c1.trans c4) s.f0 y1
      rw [hp, Option.bind_some] at h
      injection h with h
      injection h with h _
      have hne : s.f0.toList ≠ [] := by rcases hk with h_ | h_; exact absurd (h_.1.symm.trans c4) (by decide); exact h_.2
      have e5 : y.f5 = v.f5.take i ++ [s.f0] ++ v.f5.drop (if b = true then i + 1 else i) := by rw [← h]
      have e4 : y.f4 = v.f4.take i ++ [y1] ++ v.f4.drop (if b = true then i + 1 else i) := by rw [← h]
      have e0 : y.f0 = 6 := by rw [← h]
      have v6 := c1.trans c4
      obtain ⟨hrn, _, j, hj5, hj4⟩ : r.f0.toList ≠ [] ∧ v.f0 = 6 ∧ ∃ i : Nat, v.f5[i]? = some r.f0 ∧ v.f4[i]? = some o := by
        rcases hrt with h_ | h_
        · exact absurd (h_.2.1.symm.trans v6) (by decide)
        · exact h_
      have gy1 : Gd y1 := hy.item (by rw [e4]; exact List.mem_append_left _ (List.mem_append_right _ (List.mem_singleton.2 rfl)))
      by_cases c5 : r.f0 = s.f0
      · refine fin y1 (follow_key hy hrn e0 (i := i) (by rw [e5, c5]; exact put_here _ _ _ _ h1) (by rw [e4]; exact put_here _ _ _ _ h2)) (ih o ?_ rfl gy1)
        exact follow_key hg hne v6 (c5 ▸ hj5) hj4
      · have hjb : b = true → j ≠ i := fun hb he => by
          have := hib hb
          rw [← he, hj5] at this
          injection this with this
          exact c5 this
        exact same (follow_key hy hrn e0 (by rw [e5]; exact put_other _ _ _ _ h1 j _ hj5 hjb) (by rw [e4]; exact put_other _ _ _ _ h2 j _ hj4 hjb))
    · have hk5 : kd = 5 ∧ s.f0.toList = [] := by rcases hk with h_ | h_; exact h_; exact absurd h_.1 c4
      have v5 := c1.trans hk5.1
      obtain ⟨hrn, _, j, hj, hj4⟩ : r.f0.toList = [] ∧ v.f0 = 5 ∧ ∃ i : Nat, r.f1 = (i : Int) ∧ v.f4[i]? = some o := by
        rcases hrt with h_ | h_
        · exact h_
        · exact absurd (h_.2.1.symm.trans v5) (by decide)
      have hjl := (List.getElem?_eq_some_iff.1 hj4).1
      have k4 := hg.node.2
      have n0 := hs.1 hk5.2
      obtain ⟨n, hn1⟩ := Int.eq_ofNat_of_zero_le n0
      have nl : s.f1 ≤ (v.f4.length : Int) := by have : ¬ (v.f4.length : Int) < s.f1 := fun h_ => c2 ⟨hk5.1, h_⟩; omega
      rw [if_neg c4, if_pos (by omega)] at h
      by_cases c5 : s.f1 = (v.f4.length : Int)
      · rw [if_pos c5] at h
        injection h with h
        injection h with h _
        refine same (follow_row hrn (by rw [← h]) hj ?_)
        rw [← h]
        exact (List.getElem?_append_left hjl).trans hj4
      · rw [if_neg c5, if_pos ⟨n0, by omega⟩] at h
        injection h with h
        injection h with h _
        have e : s.f1.toNat = n := by rw [hn1]; rfl
        rw [e] at h
        have e4 : y.f4 = v.f4.set n y1 := by rw [← h]
        have e0 : y.f0 = 5 := by rw [← h]
        have hnl : n < v.f4.length := by omega
        by_cases c6 : j = n
        · subst c6
          have gy1 : Gd y1 := hy.item (by rw [e4]; exact List.mem_iff_getElem?.2 ⟨j, by rw [List.getElem?_set_self hnl]⟩)
          exact fin y1 (follow_row hrn e0 hj (by rw [e4, List.getElem?_set_self hnl])) (ih o (follow_row hk5.2 v5 hn1 hj4) rfl gy1)
        · exact same (follow_row hrn e0 hj (by rw [e4, List.getElem?_set_ne (fun h_ => c6 h_.symm)]; exact hj4))
end Go.Proofs.YtlofkjdcapbohaaGreatDoor.Pure
