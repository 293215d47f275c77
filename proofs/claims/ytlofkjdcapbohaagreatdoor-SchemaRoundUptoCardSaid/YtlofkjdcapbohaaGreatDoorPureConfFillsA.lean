/- For ConfFills: steps with stars; what has been found is found after a set that did not find its own. -/
import Derived.Test.YtlofkjdcapbohaaGreatDoorPureConfKeeps
namespace Go.Proofs.YtlofkjdcapbohaaGreatDoor.Pure
open Go.RowKit Go.Proofs.YtlofkjdcapbohaaGreatDoor.PConfKeeps Go.Proofs.YtlofkjdcapbohaaGreatDoorW.PrintWords Go.Proofs.YtlofkjdcapbohaaGreatDoorW.PrintLast Go.Proofs.YtlofkjdcapbohaaGreatDoorW.PrintMore
set_option linter.unusedVariables false
set_option linter.unusedSimpArgs false
/-! ### steps with stars -/
theorem stepsT_lv (ps : List ByteArray) (hp : ps.length ≤ 1000) (hsz : ∀ p ∈ ps, p.size ≤ 400) : ∀ (d i : Nat), i + d = ps.length → ∀ acc : List S95, acc.length ≤ i →
  Tt (fun k => conf_steps.l0 k true acc ps (ps.length : Int) (i : Int)) (fun r => r.2 = true → ∃ more, r.1 = acc ++ more ∧ more.length ≤ d ∧ ((∀ s ∈ more, s.f2 = false) → (∀ s ∈ more, SV s) ∧ Ev (fun k => conf_steps.l0 k false acc ps (ps.length : Int) (i : Int)) (acc ++ more, true)))
 | 0, i, h, acc, ha => Tt.step (f := fun _ => some (acc, true)) (fun k => by rw [conf_steps.l0, if_neg (by omega)]) (Tt.some (fun _ => ⟨[], by simp, by simp, fun _ => ⟨fun s hs => (by cases hs), Ev.step (f := fun _ => some (acc ++ [], true)) (fun k => by rw [conf_steps.l0, if_neg (by omega), List.append_nil]) (Ev.now _)⟩⟩))
 | d + 1, i, h, acc, ha => by
  have hlt : i < ps.length := by omega
  have hs := hsz _ (List.getElem_mem hlt)
  have nx : ∀ s : S95, (s.f2 = true ∨ (SV s ∧ ∀ R, Ev (fun k => conf_steps.l0 k false (acc ++ [s]) ps (ps.length : Int) ((i + 1 : Nat) : Int)) R → Ev (fun k => conf_steps.l0 k false acc ps (ps.length : Int) (i : Int)) R)) →
    Tt (fun k => conf_steps.l0 k true (acc ++ [s]) ps (ps.length : Int) ((i + 1 : Nat) : Int)) (fun r => r.2 = true → ∃ more, r.1 = acc ++ more ∧ more.length ≤ d + 1 ∧ ((∀ s ∈ more, s.f2 = false) → (∀ s ∈ more, SV s) ∧ Ev (fun k => conf_steps.l0 k false acc ps (ps.length : Int) (i : Int)) (acc ++ more, true))) := fun s hsv =>
   (stepsT_lv ps hp hsz d (i + 1) (by omega) (acc ++ [s]) (by rw [List.length_append]; simp; omega)).mono (fun r hr h2 => by
    obtain ⟨more, e, hl, hm⟩ := hr h2
    refine ⟨s :: more, by rw [e, List.append_assoc]; rfl, by simp; omega, fun hst => ?_⟩
    rcases hsv with h_ | ⟨hsv, hlift⟩
    ·have := hst s (List.mem_cons_self ..)
     rw [h_] at this; cases this
    ·obtain ⟨hm1, hm2⟩ := hm (fun q hq => hst q (List.mem_cons_of_mem _ hq))
     refine ⟨fun q hq => ?_, ?_⟩
     ·rcases List.mem_cons.1 hq with rfl | hq
      ·exact hsv
      ·exact hm1 q hq
     ·rw [List.append_assoc] at hm2
      exact hlift _ hm2)
  have bad : Tt (fun _ => some (([] : List S95), false)) (fun r => r.2 = true → ∃ more, r.1 = acc ++ more ∧ more.length ≤ d + 1 ∧ ((∀ s ∈ more, s.f2 = false) → (∀ s ∈ more, SV s) ∧ Ev (fun k => conf_steps.l0 k false acc ps (ps.length : Int) (i : Int)) (acc ++ more, true))) := Tt.some (fun h => by cases h)
  have hz : (⟨#[]⟩ : ByteArray).size ≤ 400 := Nat.zero_le _
  refine Tt.step (fun k => by rw [conf_steps.l0, if_pos (by omega), if_pos (by omega), if_pos (by omega), rdOf_at hlt, w1 hlt (by omega)]) ?_
  refine Tt.bind (key_tt ps[i] (by omega)) (fun b hkb _ => ?_)
  cases b with
  | true =>
   refine Tt.ite (fun _ => Tt.ite (fun _ => nx ⟨ps[i], 0, false⟩ (.inr ⟨⟨fun _ => Int.le_refl _, hs⟩, fun R hR => ?_⟩)) (fun hn => absurd (by omega) hn)) (fun hn => absurd rfl hn)
   refine Ev.step (fun k => by rw [conf_steps.l0, if_pos (by omega), if_pos (by omega), if_pos (by omega), rdOf_at hlt, w1 hlt (by omega)]) (Ev.bind hkb (Ev.congr (fun k => ?_) hR))
   rw [if_pos rfl, if_pos (by omega)]
  | false =>
   refine Tt.ite (fun hn => absurd hn (by decide)) (fun _ => Tt.ite (fun _ => ?_) (fun hn => absurd rfl hn))
   have lf : ∀ R, Ev (fun k => conf_steps.j1 k false acc ps[i] ps (ps.length : Int) (i : Int) false) R → Ev (fun k => conf_steps.l0 k false acc ps (ps.length : Int) (i : Int)) R := fun R hR =>
    Ev.step (fun k => by rw [conf_steps.l0, if_pos (by omega), if_pos (by omega), if_pos (by omega), rdOf_at hlt, w1 hlt (by omega)]) (Ev.bind hkb (Ev.congr (fun k => by rw [if_neg (by decide), if_neg (by decide)]) hR))
   cases hst : (ps[i].toList == ([42] : List UInt8)) with
   | true => exact Tt.step (fun k => by rw [conf_steps.j1, if_pos rfl, w1 hlt (by omega)]) (Tt.ite (fun _ => nx ⟨⟨#[]⟩, 0, true⟩ (.inl rfl)) (fun hn => absurd (by omega) hn))
   | false =>
    refine Tt.step (f := fun k => _) (fun k => by rw [conf_steps.j1, if_neg (by decide), w1 hlt (by omega)]) ?_
    refine Tt.ite (fun _ => bad) (fun hne => Tt.ite (fun _ => bad) (fun h4 => ?_))
    have h0 := tl_ne hne
    refine Tt.bind (int_tt ps[i] (by omega) h0) (fun b2 hb2e hi => Tt.ite (fun hb2 => Tt.ite (fun _ => Tt.ite (fun _ => bad) (fun h45 => ?_)) (fun hn => absurd (by omega) hn)) (fun _ => bad))
    have hall := hi h45
    rw [hb2] at hall
    subst hb2
    obtain ⟨n, hn, _⟩ := atoi_all ps[i] (by omega) h0 hall.symm
    have lift : (bt ps[i] 0 = 48 → ps[i].toList = ([48] : List UInt8)) → ∀ R, Ev (fun k => conf_steps.l0 k false (acc ++ [(⟨⟨#[]⟩, (n : Int), false⟩ : S95)]) ps (ps.length : Int) ((i + 1 : Nat) : Int)) R → Ev (fun k => conf_steps.l0 k false acc ps (ps.length : Int) (i : Int)) R := fun hq R hR => by
     refine lf R (Ev.step (fun k => by rw [conf_steps.j1, if_neg (by decide), if_neg hne, if_neg h4, w1 hlt (by omega)]) (Ev.bind hb2e (Ev.congr (fun k => ?_) hR)))
     rw [if_pos rfl, if_pos (by omega), if_neg h45]
     by_cases h48 : bt ps[i] 0 = 48
     ·rw [if_pos h48, if_pos (hq h48), hn, Option.bind_some, if_pos (by omega)]
     ·rw [if_neg h48, hn, Option.bind_some, if_pos (by omega)]
    have at_ : (bt ps[i] 0 = 48 → ps[i].toList = ([48] : List UInt8)) → Tt (fun k => (strconv_Atoi.f ps[i]).bind fun bt145 => (if acc.length < 4398046511104 then (conf_steps.l0 k true (acc ++ [(⟨(⟨#[]⟩ : ByteArray), bt145.1, false⟩ : S95)]) ps (ps.length : Int) ((i + 1 : Nat) : Int)) else none)) (fun r => r.2 = true → ∃ more, r.1 = acc ++ more ∧ more.length ≤ d + 1 ∧ ((∀ s ∈ more, s.f2 = false) → (∀ s ∈ more, SV s) ∧ Ev (fun k => conf_steps.l0 k false acc ps (ps.length : Int) (i : Int)) (acc ++ more, true))) := fun hq => by
     rw [hn]
     simp only [Option.bind_some]
     exact Tt.ite (fun _ => nx ⟨⟨#[]⟩, (n : Int), false⟩ (.inr ⟨⟨fun _ => Int.natCast_nonneg n, hz⟩, lift hq⟩)) (fun hn => absurd (by omega) hn)
    exact Tt.ite (fun h48 => Tt.ite (fun hq => at_ (fun _ => hq)) (fun _ => bad)) (fun h48 => at_ (fun h_ => absurd h_ h48))
theorem stepsT_tt (route : ByteArray) : Tt (fun k => conf_steps.f k route true) (fun r => r.2 = true → r.1.length ≤ 1000 ∧ ((∀ s ∈ r.1, s.f2 = false) → (∀ s ∈ r.1, SV s) ∧ Ev (fun k => conf_steps.f k route false) (r.1, true))) := by
 unfold conf_steps.f
 by_cases h4 : (route.size : Int) > 400
 ·exact Tt.ite (fun _ => Tt.some (fun h => by cases h)) (fun hn => absurd h4 hn)
 refine Tt.ite (fun hn => absurd hn h4) (fun _ => ?_)
 by_cases hne : route.toList = ([] : List UInt8)
 ·exact Tt.ite (fun _ => Tt.some (fun _ => ⟨Nat.zero_le _, fun _ => ⟨fun s hs => (by cases hs), Ev.congr (f := fun _ => some (([] : List S95), true)) (fun k => by rw [if_neg h4, if_pos hne]) (Ev.now _)⟩⟩)) (fun hn => absurd hne hn)
 refine Tt.ite (fun hn => absurd hn hne) (fun _ => ?_)
 have hs : strings_Split.f route (⟨#[46]⟩ : ByteArray) = some (cutB 46 route) := by
  unfold strings_Split.f
  rw [if_pos ⟨rfl, by omega⟩]; rfl
 rw [hs]
 simp only [Option.bind_some]
 have hlen : (cutB 46 route).length ≤ 1000 := by
  rw [cutB_len]
  have := countByte_le route.data.toList 46
  have := Lib.size_eq route
  omega
 refine (stepsT_lv (cutB 46 route) hlen (fun p hp => ?_) (cutB 46 route).length 0 (by omega) [] (Nat.le_refl _)).mono (fun r hr h => ?_)
 ·unfold cutB at hp
  obtain ⟨q, hq, rfl⟩ := List.mem_map.1 hp
  have := cutAll_mem 46 _ q hq
  have h2 := Lib.size_eq route
  show q.toArray.size ≤ 400
  rw [List.size_toArray]
  omega
 ·obtain ⟨more, e, hl, hm⟩ := hr h
  rw [List.nil_append] at e
  rw [e]
  refine ⟨by omega, fun hst => ?_⟩
  obtain ⟨h1, h2⟩ := hm hst
  rw [List.nil_append] at h2
  exact ⟨h1, Ev.congr (fun k => by rw [if_neg h4, if_neg hne]; rfl) h2⟩
/-! ### what is found is kept -/
end Go.Proofs.YtlofkjdcapbohaaGreatDoor.Pure
