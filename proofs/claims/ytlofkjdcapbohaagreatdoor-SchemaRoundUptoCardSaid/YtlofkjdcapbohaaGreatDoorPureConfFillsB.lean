/- For ConfFills: CheckSchema and Fill come to an answer; what is filled lacks no default and is filled to itself. -/
import Derived.Test.YtlofkjdcapbohaaGreatDoorPureConfFillsA
import Derived.Test.YtlofkjdcapbohaaGreatDoorCfH
namespace Go.Proofs.YtlofkjdcapbohaaGreatDoor.Pure
open Go.RowKit Go.Proofs.YtlofkjdcapbohaaGreatDoor.PConfKeeps Go.Proofs.YtlofkjdcapbohaaGreatDoorW.PrintWords Go.Proofs.YtlofkjdcapbohaaGreatDoorW.PrintLast Go.Proofs.YtlofkjdcapbohaaGreatDoorW.PrintMore
set_option linter.unusedVariables false
set_option linter.unusedSimpArgs false
theorem rd95_at {l : List S95} {i : Nat} (h : i < l.length) : rd_T95 l (i : Int) = l[i] := by
 unfold rd_T95
 rw [Int.toNat_natCast, List.getD_eq_getElem?_getD, List.getElem?_eq_getElem h]; rfl
theorem rd44_at {l : List S44} {i : Nat} (h : i < l.length) : rd_T44 l (i : Int) = l[i] := by
 unfold rd_T44
 rw [Int.toNat_natCast, List.getD_eq_getElem?_getD, List.getElem?_eq_getElem h]; rfl
theorem star_lv (l : List S95) (hl : l.length ≤ 1000) : ∀ d i : Nat, i + d = l.length → Tt (fun k => conf_hasStar.l0 k l (l.length : Int) (i : Int)) (fun b => b = false → ∀ s ∈ l.drop i, s.f2 = false)
 | 0, i, h => Tt.step (f := fun _ => some false) (fun k => by rw [conf_hasStar.l0, if_neg (by omega)]) (Tt.some (fun _ s hs => by rw [List.drop_eq_nil_of_le (by omega)] at hs; cases hs))
 | d + 1, i, h => by
  have hlt : i < l.length := by omega
  refine Tt.step (fun k => by rw [conf_hasStar.l0, if_pos (by omega), if_pos (by omega), if_pos (by omega), rd95_at hlt, w1 hlt (by omega)]) ?_
  refine Tt.ite (fun _ => Tt.some (fun h_ => by cases h_)) (fun hn => (star_lv l hl d (i + 1) (by omega)).mono (fun b hb h_ s hs => ?_))
  rw [List.drop_eq_getElem_cons hlt] at hs
  rcases List.mem_cons.1 hs with rfl | hs
  ·cases hq : (l[i]).f2 with
   | false => rfl
   | true => exact absurd hq hn
  ·exact hb h_ s hs
theorem star_tt (l : List S95) (hl : l.length ≤ 1000) : Tt (fun k => conf_hasStar.f k l) (fun b => b = false → ∀ s ∈ l, s.f2 = false) :=
 (star_lv l hl l.length 0 (by omega)).mono (fun b hb h => by have := hb h; rw [List.drop_zero] at this; exact this)
/-! ### fields -/
def FOk (n : Nat) (f : S44) : Prop := Fits n f.f7 ∧ f.f6.length ≤ 140737488351232 ∧ ∀ s ∈ f.f6, s.size ≤ 140737488351232
/-- what a right field has -/
def Right (f : S44) : Prop := ∃ st, Ev (fun k => conf_steps.f k f.f0 true) (st, true) ∧ (f.f7.f0 ≠ 0 → Ev (fun k => Fck k f.f7) 0 ∧ (∀ s ∈ st, SV s) ∧ Ev (fun k => conf_steps.f k f.f0 false) (st, true))
theorem rdOf_mem {l : List ByteArray} {i : Nat} (h : i < l.length) : rdOf ByteArray.empty l (i : Int) ∈ l := by
 rw [rdOf_at h]; exact List.getElem_mem _
theorem one_tt (l : List ByteArray) (hall : ∀ s ∈ l, s.size ≤ 140737488351232) : ∀ d i : Nat, i + d = l.length → Tt (fun k => oneF k l d i) (fun _ => True)
 | 0, i, h => ⟨0, Ev.congr (f := fun _ => some 0) (fun k => by rw [oneF]) (Ev.now _), trivial⟩
 | d + 1, i, h => by
  have hm := hall _ (rdOf_mem (show i < l.length by omega))
  have ih := one_tt l hall d (i + 1) (by omega)
  unfold oneF
  refine Tt.ite (fun _ => Tt.some trivial) (fun _ => Tt.bind (Q := fun _ => True) ?_ (fun b _ _ => Tt.ite (fun _ => Tt.some trivial) (fun _ => ih)))
  exact badBytes_loop (rdOf ByteArray.empty l (i : Int)) (by omega) (rdOf ByteArray.empty l (i : Int)).size 0 (by omega)
theorem ff_tt {n : Nat} (f : S44) (hf : FOk n f) (seen : Bool) : Tt (fun k => fF k f seen) (fun e => e = 0 → Right f) := by
 obtain ⟨h7, h6, hs⟩ := hf
 have bad : ∀ e : Int, e ≠ 0 → Tt (fun _ : Nat => some e) (fun e => e = 0 → Right f) := fun e he => Tt.some (fun h => absurd h he)
 unfold fF
 refine Tt.bind (stepsT_tt f.f0) (fun st hst hq => Tt.ite (fun hok => Tt.ite (fun _ => bad 3 (by decide)) (fun _ => Tt.ite (fun _ => bad 6 (by decide)) (fun _ => ?_))) (fun _ => bad 3 (by decide)))
 obtain ⟨hlen, hstar⟩ := hq hok
 obtain ⟨l, ok⟩ := st
 dsimp only at hok hlen hstar ⊢
 subst hok
 unfold fF2
 refine Tt.ite (fun _ => bad 10 (by decide)) (fun _ => Tt.ite (fun _ => bad 1 (by decide)) (fun _ => Tt.ite (fun _ => bad 5 (by decide)) (fun _ => Tt.ite (fun _ => bad 1 (by decide)) (fun _ => ?_))))
 refine Tt.bind (one_tt f.f6 hs f.f6.length 0 (by omega)) (fun e _ _ => Tt.ite (fun _ => ?_) (fun he => bad e he))
 refine Tt.bind (check_tot h7) (fun e2 hck _ => ?_)
 unfold fF3
 refine Tt.ite (fun he2 => Tt.ite (fun _ => bad 10 (by decide)) (fun _ => Tt.ite (fun h0 => Tt.some (fun _ => ⟨l, hst, fun hn => absurd h0 hn⟩)) (fun hn0 => ?_))) (fun he => bad e2 he)
 subst he2
 refine Tt.bind (star_tt l hlen) (fun b _ hb => Tt.ite (fun _ => bad 1 (by decide)) (fun hnb => Tt.some (fun _ => ?_)))
 have hbf : b = false := by cases b with | false => rfl | true => exact absurd rfl hnb
 obtain ⟨h1, h2⟩ := hstar (hb hbf)
 exact ⟨l, hst, fun _ => ⟨hck, h1, h2⟩⟩
theorem cs_tt {n : Nat} (l : List S44) (hall : ∀ f ∈ l, FOk n f) : ∀ (d i : Nat) (m : MS), i + d = l.length → Tt (fun k => csl k l d i m) (fun e => e = 0 → ∀ f ∈ l.drop i, Right f)
 | 0, i, m, h => ⟨0, Ev.congr (f := fun _ => some 0) (fun k => by rw [csl]) (Ev.now _), fun _ f hf => by rw [List.drop_eq_nil_of_le (by omega)] at hf; cases hf⟩
 | d + 1, i, m, h => by
  have hlt : i < l.length := by omega
  unfold csl
  rw [rd44_at hlt]
  refine Tt.bind (ff_tt l[i] (hall _ (List.getElem_mem hlt)) _) (fun e _ hr => Tt.ite (fun he => ?_) (fun he => Tt.some (fun h_ => absurd h_ he)))
  refine (cs_tt l hall d (i + 1) _ (by omega)).mono (fun e2 h2 h_ f hf => ?_)
  rw [List.drop_eq_getElem_cons hlt] at hf
  rcases List.mem_cons.1 hf with rfl | hf
  ·exact hr he
  ·exact h2 h_ f hf
theorem cCS_tt {n : Nat} (l : List S44) (hall : ∀ f ∈ l, FOk n f) : Tt (fun k => cCS k l) (fun e => e = 0 → l.length ≤ 100 ∧ ∀ f ∈ l, Right f) := by
 unfold cCS
 exact Tt.ite (fun _ => Tt.some (fun h => by cases h)) (fun hn => (cs_tt l hall l.length 0 [] (by omega)).mono (fun e he h => ⟨by omega, by have := he h; rw [List.drop_zero] at this; exact this⟩))
/-! ### Set, of two checked values -/
/-! ### Fill -/
end Go.Proofs.YtlofkjdcapbohaaGreatDoor.Pure
