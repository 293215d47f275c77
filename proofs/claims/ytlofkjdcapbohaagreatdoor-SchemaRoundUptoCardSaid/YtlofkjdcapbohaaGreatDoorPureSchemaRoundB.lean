/- For SchemaRound: what SchemaValue writes ReadSchema reads. -/
import Derived.Test.YtlofkjdcapbohaaGreatDoorPureSchemaRoundA
namespace Go.Proofs.YtlofkjdcapbohaaGreatDoor.Pure
open Go.RowKit Go.Proofs.YtlofkjdcapbohaaGreatDoor.PConfKeeps Go.Proofs.YtlofkjdcapbohaaGreatDoorW.PrintWords Go.Proofs.YtlofkjdcapbohaaGreatDoorW.PrintLast Go.Proofs.YtlofkjdcapbohaaGreatDoorW.PrintMore
set_option linter.unusedVariables false
set_option linter.unusedSimpArgs false
/-- a field without a default has the nothing for one -/
def eff (f : S44) : S44 := if f.f7.f0 = 0 then { f with f7 := z25 } else f
theorem eff0 (f : S44) : (eff f).f0 = f.f0 := by unfold eff; split <;> rfl
/-- what CheckSchema tells of a field -/
structure Rt (k : Nat) (f : S44) : Prop where
 kd : f.f1 = -1 ∨ (0 ≤ f.f1 ∧ f.f1 ≤ 6)
 bd : f.f3 = false → f.f4 = 0 ∧ f.f5 = 0
 ck : Fck k f.f7 = some 0
theorem ff_rt {k : Nat} {f : S44} {seen : Bool} (h : fF k f seen = some 0) : Rt k f := by
 unfold fF at h
 obtain ⟨st, _, h⟩ := Option.bind_eq_some_iff.1 h
 split at h
 case isFalse => exact absurd h (by decide)
 split at h
 case isTrue => exact absurd h (by decide)
 split at h
 case isTrue => exact absurd h (by decide)
 unfold fF2 at h
 split at h
 case isTrue => exact absurd h (by decide)
 rename_i h29
 split at h
 case isTrue => exact absurd h (by decide)
 rename_i h43
 split at h
 case isTrue => exact absurd h (by decide)
 split at h
 case isTrue => exact absurd h (by decide)
 obtain ⟨e, _, h⟩ := Option.bind_eq_some_iff.1 h
 split at h
 case isFalse hn => injection h with h; exact absurd h hn
 obtain ⟨e2, hck, h⟩ := Option.bind_eq_some_iff.1 h
 unfold fF3 at h
 split at h
 case isFalse hn => injection h with h; exact absurd h hn
 rename_i he2
 refine ⟨?_, fun hb => ?_, by rw [hck, he2]⟩
 ·by_cases c : f.f1 = -1
  ·exact .inl c
  ·simp [ft29, c] at h29
   exact .inr h29
 ·simp [ft43, hb] at h43
  exact h43
theorem ff_eff {k : Nat} {f : S44} {seen : Bool} (h : fF k f seen = some 0) (hz : Fck k z25 = some 0) : fF k (eff f) seen = some 0 := by
 unfold eff
 split
 case isFalse => exact h
 rename_i c
 have hck := (ff_rt h).ck
 have c0 : z25.f0 = 0 := rfl
 rw [← h]
 simp only [fF, fF2, fF3, ft29, ft43, ft63, ft108, hck, hz, c, c0, Option.bind_some]
theorem eff_at {l : List S44} {i : Nat} (h : i < l.length) : rd_T44 (l.map eff) (i : Int) = eff l[i] := by
 rw [rd44_at (by rw [List.length_map]; exact h), List.getElem_map]
theorem csl_at {k : Nat} {l : List S44} : ∀ (d i : Nat) (m : MS), i + d = l.length → csl k l d i m = some 0 → (∀ f ∈ l.drop i, Rt k f) ∧ (Fck k z25 = some 0 → csl k (l.map eff) d i m = some 0)
 | 0, i, m, hl, h => ⟨fun f hf => (by rw [List.drop_eq_nil_of_le (by omega)] at hf; cases hf), fun _ => rfl⟩
 | d + 1, i, m, hl, h => by
  have hlt : i < l.length := by omega
  rw [csl, rd44_at hlt] at h
  obtain ⟨e, he, h⟩ := Option.bind_eq_some_iff.1 h
  split at h
  case isFalse hn => injection h with h; exact absurd h hn
  rename_i he0
  subst he0
  obtain ⟨i1, i2⟩ := csl_at d (i + 1) _ (by omega) h
  refine ⟨fun f hf => ?_, fun hz => ?_⟩
  ·rw [List.drop_eq_getElem_cons hlt] at hf
   rcases List.mem_cons.1 hf with rfl | hf
   ·exact ff_rt he
   ·exact i1 f hf
  ·rw [csl, eff_at hlt, eff0, ff_eff he hz, Option.bind_some, if_pos rfl]
   exact i2 hz
theorem cs_at {k : Nat} {l : List S44} (h : cCS k l = some 0) : l.length ≤ 100 ∧ (∀ f ∈ l, Rt k f) ∧ (Fck k z25 = some 0 → cCS k (l.map eff) = some 0) := by
 unfold cCS at h
 split at h
 case isTrue => exact absurd h (by decide)
 obtain ⟨i1, i2⟩ := csl_at l.length 0 [] (by omega) h
 refine ⟨by omega, fun f hf => i1 f (by rw [List.drop_zero]; exact hf), fun hz => ?_⟩
 unfold cCS
 rw [List.length_map, if_neg (by omega)]
 exact i2 hz
/-- the table of a field -/
def tb (f : S44) : S25 := shT f ((kName f.f1).getD ⟨#[]⟩) f.f3 (f.f6.length != 0) (f.f7.f0 != 0)
theorem tb_eff (f : S44) : tb (eff f) = tb f := by
 unfold eff
 split
 case isFalse => rfl
 rename_i c
 have h1 : (f.f7.f0 != 0) = false := bne_eq_false_iff_eq.2 c
 have h2 : (z25.f0 != 0) = false := rfl
 unfold tb
 dsimp only
 rw [h1, h2]
 rfl
theorem field_tb {k : Nat} {f : S44} (h : f.f1 = -1 ∨ (0 ≤ f.f1 ∧ f.f1 ≤ 6)) (h6 : f.f6.length ≤ 2000000) (h7 : f.f7.f0 ≠ 0 → Fcl k f.f7 = some f.f7) : fieldV k f = some (tb f) := by
 obtain ⟨kn, hk, _⟩ := kind_v f.f1 h
 rw [field_v f kn hk h6 h7]
 unfold tb
 rw [hk]; rfl
theorem fts_v {k : Nat} {l : List S44} (hall : ∀ f ∈ l, fieldV k f = some (tb f)) : ∀ d i, i + d = l.length → fTs k l d i = some ((l.drop i).map tb)
 | 0, i, h => by rw [List.drop_eq_nil_of_le (by omega)]; rfl
 | d + 1, i, h => by
  have hlt : i < l.length := by omega
  rw [fTs, rd44_at hlt, hall _ (List.getElem_mem hlt), Option.bind_some, fts_v hall d (i + 1) (by omega), Option.bind_some, List.drop_eq_getElem_cons hlt]; rfl
theorem kn_size {n : Int} {kn : ByteArray} (h : kName n = some kn) : kn.size ≤ 6 := by
 unfold kName at h
 split at h
 ·injection h with h; subst h; decide
 ·split at h
  case isFalse => cases h
  rename_i hn
  injection h with h
  obtain ⟨i, rfl⟩ := Int.eq_ofNat_of_zero_le hn.1
  have hm : rdOf ByteArray.empty kNames (i : Int) ∈ kNames := rdOf_mem (show i < 7 by omega)
  rw [h] at hm
  have hall : ∀ s ∈ kNames, s.size ≤ 6 := by decide
  exact hall _ hm
theorem fits_vS {s : ByteArray} (n : Nat) (h : s.size ≤ 140737488351232) : Fits (n + 1) (vS s) := ⟨h, Nat.zero_le _, Nat.zero_le _, fun a ha => (by cases ha), fun a ha => (by cases ha)⟩
theorem fits_flat (n : Nat) (k : Int) (b : Bool) (i : Int) : Fits (n + 1) ⟨k, b, i, ⟨#[]⟩, [], []⟩ := ⟨Nat.zero_le _, Nat.zero_le _, Nat.zero_le _, fun a ha => (by cases ha), fun a ha => (by cases ha)⟩
theorem fits_vL {n : Nat} {l : List S25} (hl : l.length ≤ 140737488351232) (h : ∀ a ∈ l, Fits n a) : Fits (n + 1) (vL l) := ⟨Nat.zero_le _, hl, Nat.zero_le _, fun a ha => (by cases ha), h⟩
theorem sh_mem {f : S44} {kn : ByteArray} {b o d : Bool} {a : S25} (h : a ∈ shV f kn b o d) : a = f.f7 ∨ a = vS kn ∨ a = vI f.f5 ∨ a = vI f.f4 ∨ a = vB f.f2 ∨ a = vL (f.f6.map vS) ∨ a = vS f.f0 := by
 cases b <;> cases o <;> cases d <;> (simp only [shV, Bool.false_eq_true, List.nil_append, List.cons_append, List.mem_cons, List.not_mem_nil, or_false, if_true, if_false] at h; grind)
theorem sh_keys (b o d : Bool) : ∀ s ∈ shK b o d, s.size ≤ 7 := by
 cases b <;> cases o <;> cases d <;> decide
theorem fits_tb {n : Nat} (hn : 1 ≤ n) {f : S44} (hk : f.f1 = -1 ∨ (0 ≤ f.f1 ∧ f.f1 ≤ 6)) (h7 : Fits n f.f7) (h0 : f.f0.size ≤ 140737488351232) (h6 : f.f6.length ≤ 2000000) (h6' : ∀ s ∈ f.f6, s.size ≤ 140737488351232) : Fits (n + 2) (tb f) := by
 obtain ⟨m, rfl⟩ : ∃ m, n = m + 1 := ⟨n - 1, by omega⟩
 obtain ⟨kn, hkn, _⟩ := kind_v f.f1 hk
 have hsz := kn_size hkn
 have ht : tb f = shT f kn f.f3 (f.f6.length != 0) (f.f7.f0 != 0) := by unfold tb; rw [hkn]; rfl
 rw [ht]
 obtain ⟨l1, l2⟩ := sh_len f kn f.f3 (f.f6.length != 0) (f.f7.f0 != 0)
 refine ⟨Nat.zero_le _, ?_, ?_, fun s hs => ?_, fun a ha => ?_⟩
 ·show (shV f kn _ _ _).length ≤ _; omega
 ·show (shK _ _ _).length ≤ _; omega
 ·have := sh_keys _ _ _ s hs; omega
 ·rcases sh_mem ha with rfl | rfl | rfl | rfl | rfl | rfl | rfl
  ·exact fits_mono _ _ _ (by omega) h7
  ·exact fits_vS _ (by omega)
  ·exact fits_flat _ _ _ _
  ·exact fits_flat _ _ _ _
  ·exact fits_flat _ _ _ _
  ·exact fits_vL (by rw [List.length_map]; omega) (fun a ha => by obtain ⟨s, hs, rfl⟩ := List.mem_map.1 ha; exact fits_vS _ (h6' s hs))
  ·exact fits_vS _ h0
theorem read_tb {k : Nat} {f : S44} (hr : Rt k f) (ho : (f.f6.length != 0) = true → f.f6.length ≤ 1000000) (hd : f.f7.f0 ≠ 0 → Fcl k f.f7 = some f.f7) : (tb f).f5.length ≤ (tb f).f4.length ∧ cLack (tb f) = some false ∧ rFl k (tb f) (tb f).f5.length 0 z44 = some (eff f) := by
 obtain ⟨kn, hkn, hko⟩ := kind_v f.f1 hr.kd
 have ht : tb f = shT f kn f.f3 (f.f6.length != 0) (f.f7.f0 != 0) := by unfold tb; rw [hkn]; rfl
 rw [ht]
 refine ⟨Nat.le_of_eq (sh_len _ _ _ _ _).1.symm, lack_sh _ _ _ _ _, ?_⟩
 refine (read_sh f kn f.f3 (f.f6.length != 0) (f.f7.f0 != 0) hko ho (fun h => hd (bne_iff_ne.1 h))).trans ?_
 congr 1
 have e4 : (if f.f3 = true then f.f4 else 0) = f.f4 := by
  cases hb : f.f3 with
  | true => rw [if_pos rfl]
  | false => rw [if_neg (by decide), (hr.bd hb).1]
 have e5 : (if f.f3 = true then f.f5 else 0) = f.f5 := by
  cases hb : f.f3 with
  | true => rw [if_pos rfl]
  | false => rw [if_neg (by decide), (hr.bd hb).2]
 have e6 : (if (f.f6.length != 0) = true then (f.f6.map vS).map (fun y => y.f3) else []) = f.f6 := by
  split
  ·rw [List.map_map]
   exact (List.map_congr_left (fun s _ => rfl)).trans (List.map_id _)
  ·rename_i h
   have : f.f6.length = 0 := by simpa using h
   exact (List.eq_nil_of_length_eq_zero this).symm
 rw [e4, e5, e6]
 unfold eff
 by_cases c : f.f7.f0 = 0
 ·rw [if_pos c, show (f.f7.f0 != 0) = false from bne_eq_false_iff_eq.2 c]; rfl
 ·rw [if_neg c, show (f.f7.f0 != 0) = true from bne_iff_ne.2 c]; cases f; rfl
abbrev q_fields : ByteArray := ⟨#[102, 105, 101, 108, 100, 115]⟩
abbrev q_strict : ByteArray := ⟨#[115, 116, 114, 105, 99, 116]⟩
/-- the schema's value -/
def topV (ts : List S25) (st : Bool) : S25 := ⟨6, false, 0, ⟨#[]⟩, [vL ts, vB st], [q_fields, q_strict]⟩
theorem top_put (ts : List S25) (st : Bool) : (cput vT q_fields (vL ts)).bind (fun v => cput v q_strict (vB st)) = some (topV ts st) := by
 rw [cput_k [] [] q_fields (vL ts) 0 (by decide) rfl [q_fields] rfl [vL ts] rfl, Option.bind_some]
 exact cput_k [vL ts] [q_fields] q_strict (vB st) 1 (by decide) rfl _ rfl _ rfl
theorem csv_v {k : Nat} {l : List S44} {st : Bool} {e : Int} (h : cCS k l = some 0) (hl : l.length ≤ 100) (hall : ∀ f ∈ l, fieldV k f = some (tb f)) (hc : Fck k (topV (l.map tb) st) = some e) : cSV k l st = some (if e = 0 then (topV (l.map tb) st, 0) else (z25, e)) := by
 unfold cSV
 rw [h, Option.bind_some, if_pos rfl, fts_v hall l.length 0 (by omega), Option.bind_some, List.drop_zero, if_pos (by rw [List.length_map]; omega)]
 have hp := top_put (l.map tb) st
 obtain ⟨v1, h1, h2⟩ := Option.bind_eq_some_iff.1 hp
 have h1' : cput vT ⟨#[102, 105, 101, 108, 100, 115]⟩ (vL (l.map tb)) = some v1 := h1
 have h2' : cput v1 ⟨#[115, 116, 114, 105, 99, 116]⟩ (vB st) = some (topV (l.map tb) st) := h2
 rw [h1', Option.bind_some, h2', Option.bind_some, hc, Option.bind_some]
 split <;> rfl
theorem all_ev3 {α : Type} {g : Nat → α → Prop} : ∀ (l : List α), (∀ a ∈ l, ∃ K, ∀ k, K ≤ k → g k a) → ∃ K, ∀ k, K ≤ k → ∀ a ∈ l, g k a
 | [], _ => ⟨0, fun _ _ a ha => by cases ha⟩
 | a :: l, h => by
  obtain ⟨K1, h1⟩ := h a (List.mem_cons_self ..)
  obtain ⟨K2, h2⟩ := all_ev3 l (fun b hb => h b (List.mem_cons_of_mem _ hb))
  refine ⟨K1 + K2, fun k hk b hb => ?_⟩
  rcases List.mem_cons.1 hb with rfl | hb
  ·exact h1 k (by omega)
  ·exact h2 k (by omega) b hb
theorem check_z : ∃ K, ∀ k, K ≤ k → Fck k z25 = some 0 := by
 have h0 : Fck 20 z25 = some 0 := by kernel_rfl
 refine ⟨20, fun k hk => ?_⟩
 obtain ⟨j, rfl⟩ : ∃ j, k = 20 + j := ⟨k - 20, by omega⟩
 clear hk
 induction j with
 | zero => exact h0
 | succ j ih => exact conf_Check.mono _ _ _ _ _ _ _ _ ih
theorem SchemaRound {n : Nat} (hn : n ≤ 1900000) (l : List S44) (st : Bool) (hall : ∀ f ∈ l, FOk n f) (h0 : ∀ f ∈ l, f.f0.size ≤ maxLen ∧ f.f0.size ≤ 140737488351232) (h6 : ∀ f ∈ l, f.f6.length ≤ 2000000) :
  (∃ k x er, cSV k l st = some (x, er) ∧ er ≠ 0 ∧ Fsm k x z25 = some true) ∨
  (∃ k x t F a b1 b2, cSV k l st = some (x, 0) ∧ RS k x t F a b1 b2 ∧ a.f1 = st ∧ cSV k t st = some (x, 0) ∧ Fsm k x x = some true) := by
 obtain ⟨Kz, hz⟩ := same_ev (fits_z 1 (Nat.le_refl _))
 obtain ⟨e1, ⟨K1, h1'⟩, _⟩ := cCS_tt l hall
 have h1 : ∀ k, K1 ≤ k → cCS k l = some e1 := h1'
 by_cases c1 : e1 = 0
 case neg => exact .inl ⟨K1 + Kz, z25, e1, by unfold cSV; rw [h1 _ (by omega), Option.bind_some, if_neg c1], c1, hz _ (by omega)⟩
 subst c1
 obtain ⟨hl, hR1, _⟩ := cs_at (h1 K1 (Nat.le_refl _))
 have hn1 : ∀ f ∈ l, 1 ≤ n := fun f hf => fits_pos (hall f hf).1
 have hgd : ∀ f ∈ l, Gd f.f7 := fun f hf => ⟨8, (check_v (by omega) (hall f hf).1 (hR1 f hf).ck).1⟩
 obtain ⟨K2, h2⟩ := all_ev3 (g := fun k f => Fcl k f.f7 = some f.f7) l (fun f hf => by obtain ⟨K, h⟩ := fcl_ev (hgd f hf); exact ⟨K, fun k hk => h k hk⟩)
 obtain ⟨K3, h3⟩ := check_z
 have hfit : Fits (n + 4) (topV (l.map tb) st) := by
  refine ⟨Nat.zero_le _, by show 2 ≤ _; omega, by show 2 ≤ _; omega, fun s hs => ?_, fun a ha => ?_⟩
  ·have hs' : s = q_fields ∨ s = q_strict := by simpa [topV] using hs
   rcases hs' with rfl | rfl <;> decide
  ·have ha' : a = vL (l.map tb) ∨ a = vB st := by simpa [topV] using ha
   rcases ha' with rfl | rfl
   ·refine fits_vL (by rw [List.length_map]; omega) (fun a ha => ?_)
    obtain ⟨f, hf, rfl⟩ := List.mem_map.1 ha
    exact fits_tb (hn1 f hf) (hR1 f hf).kd (hall f hf).1 (h0 f hf).2 (h6 f hf) (hall f hf).2.2
   ·exact fits_flat _ _ _ _
 obtain ⟨e2, ⟨K4, h4'⟩, _⟩ := check_tot hfit
 have h4 : ∀ k, K4 ≤ k → Fck k (topV (l.map tb) st) = some e2 := h4'
 have hsv : ∀ k, K1 + K2 + K4 ≤ k → cSV k l st = some (if e2 = 0 then (topV (l.map tb) st, 0) else (z25, e2)) := fun k hk =>
  csv_v (h1 k (by omega)) hl (fun f hf => field_tb (hR1 f hf).kd (h6 f hf) (fun _ => h2 k (by omega) f hf)) (h4 k (by omega))
 by_cases c2 : e2 = 0
 case neg => exact .inl ⟨K1 + K2 + K4 + Kz, z25, e2, by rw [hsv _ (by omega), if_neg c2], c2, hz _ (by omega)⟩
 subst c2
 have hgt : Gd (topV (l.map tb) st) := ⟨8, (check_v (by omega) hfit (h4 K4 (Nat.le_refl _))).1⟩
 have hgF : Gd (vL (l.map tb)) := hgt.item (List.mem_cons_self ..)
 have ho : ∀ f ∈ l, (f.f6.length != 0) = true → f.f6.length ≤ 1000000 := fun f hf hb => by
  have hgT : Gd (tb f) := hgF.item (List.mem_map_of_mem hf)
  have hm : vL (f.f6.map vS) ∈ (tb f).f4 := by
   show _ ∈ shV f _ f.f3 (f.f6.length != 0) (f.f7.f0 != 0)
   rw [hb]
   unfold shV
   simp
  have := (hgT.item hm).node.2
  have h5 : (f.f6.map vS).length ≤ 1000 := this
  rw [List.length_map] at h5
  omega
 obtain ⟨K5, h5⟩ := same_ev hfit
 refine .inr ⟨K1 + K2 + K3 + K4 + K5, topV (l.map tb) st, l.map eff, vL (l.map tb), vB st, true, true, by rw [hsv _ (by omega), if_pos rfl], ?_, rfl, ?_, h5 _ (by omega)⟩
 ·have hkk : K1 + K2 + K3 + K4 + K5 = K1 + K2 + K3 + K4 + K5 := rfl
  generalize hkd : K1 + K2 + K3 + K4 + K5 = k
  have hR := (cs_at (h1 k (by omega))).2.1
  have hst : cItem (topV (l.map tb) st) q_strict = some (vB st, true) := item_at _ [q_fields, q_strict] rfl q_strict 1 _ rfl rfl (by decide) (by decide)
  have hfl : cItem (topV (l.map tb) st) q_fields = some (vL (l.map tb), true) := item_at _ [q_fields, q_strict] rfl q_fields 0 _ rfl rfl (by decide) (by decide)
  refine ⟨h4 k (by omega), ⟨rfl, hst, fun _ => rfl, hfl, fun _ => rfl, fun t ht => ?_⟩, ⟨fun s hs => ?_, hfl, fun t ht => ?_⟩, ⟨by show (l.map tb).length = _; rw [List.length_map, List.length_map], by rw [List.length_map]; exact hl⟩, fun i hi => ?_, (cs_at (h1 k (by omega))).2.2 (h3 k (by omega)), fun x hx => ?_⟩
  ·obtain ⟨f, hf, rfl⟩ := List.mem_map.1 ht
   exact ⟨rfl, Nat.le_of_eq (sh_len _ _ _ _ _).1.symm, fun i hi => kd_sh f _ _ _ _ i hi⟩
  ·have hs' : s = q_fields ∨ s = q_strict := by simpa [topV] using hs
   rcases hs' with rfl | rfl
   ·exact .inl (by rw [tl_eq])
   ·exact .inr (by rw [tl_eq])
  ·obtain ⟨f, hf, rfl⟩ := List.mem_map.1 ht
   obtain ⟨kn, hkn, hko⟩ := kind_v f.f1 (hR f hf).kd
   refine ⟨Nat.le_of_eq (sh_len _ _ _ _ _).1.symm, fun i hi => nm_sh f _ _ _ _ ⟨f.f1, ?_⟩ i hi⟩
   rw [hkn]; exact hko
  ·have hil : i < l.length := by rw [List.length_map] at hi; exact hi
   have e1 : rd_T25 (vL (l.map tb)).f4 (i : Int) = tb l[i] := rd25n (by show (l.map tb)[i]? = _; rw [List.getElem?_map, List.getElem?_eq_getElem hil]; rfl)
   rw [e1, eff_at hil]
   exact read_tb (hR _ (List.getElem_mem hil)) (ho _ (List.getElem_mem hil)) (fun _ => h2 k (by omega) _ (List.getElem_mem hil))
  ·obtain ⟨f, hf, rfl⟩ := List.mem_map.1 hx
   rw [eff0]; exact (h0 f hf).1
 ·generalize hkd : K1 + K2 + K3 + K4 + K5 = k
  have hmt : (l.map eff).map tb = l.map tb := by rw [List.map_map]; exact List.map_congr_left (fun f _ => tb_eff f)
  have := csv_v (k := k) (l := l.map eff) (st := st) (e := 0) ((cs_at (h1 k (by omega))).2.2 (h3 k (by omega))) (by rw [List.length_map]; exact hl) (fun f hf => ?_) (by rw [hmt]; exact h4 k (by omega))
  ·rw [this, if_pos rfl, hmt]
  ·obtain ⟨g, hg, rfl⟩ := List.mem_map.1 hf
   have hk : (eff g).f1 = g.f1 := by unfold eff; split <;> rfl
   have hs : (eff g).f6 = g.f6 := by unfold eff; split <;> rfl
   refine field_tb (by rw [hk]; exact (hR1 g hg).kd) (by rw [hs]; exact h6 g hg) (fun hne => ?_)
   unfold eff at hne ⊢
   split at hne
   ·exact absurd rfl hne
   ·rename_i c
    rw [if_neg c]
    exact h2 k (by omega) g hg
end Go.Proofs.YtlofkjdcapbohaaGreatDoor.Pure
