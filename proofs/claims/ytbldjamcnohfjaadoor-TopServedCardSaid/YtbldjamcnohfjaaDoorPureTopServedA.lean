/- For TopServed: paths: whether a string is one is told, and what bytes a path has. -/
import Derived.Test.YtbldjamcnohfjaaDoorSvK
import Derived.Test.YtbldjamcnohfjaaDoorBytes
namespace Go.Proofs.YtbldjamcnohfjaaDoor.Pure
open Go.RowKit Go.Proofs.YtbldjamcnohfjaaDoor.PTopServed Go.Proofs.YtbldjamcnohfjaaDoorW.PrintWords Go.Proofs.YtbldjamcnohfjaaDoorW.PrintLast Go.Proofs.YtbldjamcnohfjaaDoorW.PrintMore
set_option linter.unusedVariables false
set_option linter.unusedSimpArgs false
/-! ### Answers that come -/
/-- with enough rounds it comes to an answer, of which Q holds -/
def Tt {α : Type} (g : Nat → Option α) (Q : α → Prop) : Prop := ∃ r, Ev g r ∧ Q r
section
variable {α β : Type} {Q : α → Prop} {R : β → Prop}
theorem Tt.some {r : α} (h : Q r) : Tt (fun _ => Option.some r) Q := ⟨r, Ev.now r, h⟩
theorem Tt.ite {c : Prop} [Decidable c] {a b : Nat → Option α} (h1 : c → Tt a Q) (h2 : ¬ c → Tt b Q) : Tt (fun n => if c then a n else b n) Q := by
  by_cases h : c
  · obtain ⟨r, hr, hq⟩ := h1 h
    exact ⟨r, Ev.congr (fun k => if_pos h) hr, hq⟩
  · obtain ⟨r, hr, hq⟩ := h2 h
    exact ⟨r, Ev.congr (fun k => if_neg h) hr, hq⟩
theorem Tt.bind {g : Nat → Option α} {f : Nat → α → Option β} (h : Tt g Q) (k : ∀ a, Ev g a → Q a → Tt (fun n => f n a) R) : Tt (fun n => (g n).bind (f n)) R := by
  obtain ⟨a, ha, hq⟩ := h
  obtain ⟨r, hr, hr2⟩ := k a ha hq
  exact ⟨r, Ev.bind ha hr, hr2⟩
theorem Tt.step {g f : Nat → Option α} (h : ∀ k, g (k + 1) = f k) (k : Tt f Q) : Tt g Q := by
  obtain ⟨r, hr, hq⟩ := k
  exact ⟨r, Ev.step h hr, hq⟩
theorem Tt.mono {g : Nat → Option α} {Q' : α → Prop} (h : Tt g Q) (k : ∀ r, Q r → Q' r) : Tt g Q' := by
  obtain ⟨r, hr, hq⟩ := h
  exact ⟨r, hr, k r hq⟩
theorem Ev.uniq {g : Nat → Option α} {r q : α} (h : Ev g r) (h' : Ev g q) : r = q := by
  obtain ⟨K, hK⟩ := h
  obtain ⟨L, hL⟩ := h'
  have := (hK (K + L) (by omega)).symm.trans (hL (K + L) (by omega))
  injection this
end
theorem w1 {i n : Nat} (h : i < n) (hn : n ≤ 4611686018427387904) : wrap64 ((i : Int) + 1) = ((i + 1 : Nat) : Int) := by rw [w64 (by omega) (by omega)]; omega
theorem w2 {i : Nat} (h : 0 < i) (hn : i ≤ 4611686018427387904) : wrap64 ((i : Int) - 1) = ((i - 1 : Nat) : Int) := by rw [w64 (by omega) (by omega)]; omega
/-! ### Parts of paths -/
/-- a byte of a path's part -/
def Okb (c : Int) : Prop := c ≠ 35 ∧ c ≠ 37 ∧ c ≠ 63 ∧ c ≠ 47
theorem digit_tt (c : Int) : Tt (fun _ => ship_isDigit.f c) (fun r => r = true → 48 ≤ c ∧ c ≤ 57) := by
  unfold ship_isDigit.f
  exact Tt.ite (fun h => Tt.some (fun e => ⟨h, of_decide_eq_true e⟩)) (fun _ => Tt.some (fun e => by cases e))
theorem tail_tt {L : Nat → Option Bool} {Q : Bool → Prop} (c : Int) (hQ : Q false) (hL : Okb c → Tt L Q) :
    Tt (fun k => (ship_isDigit.f c).bind fun t => (if t = true then (L k) else (if c = 45 then (L k) else (if c = 95 then (L k) else (if c = 46 then (L k) else (some false)))))) Q := by
  refine Tt.bind (digit_tt c) (fun a _ ha => Tt.ite (fun h => ?_) (fun _ => Tt.ite (fun h => ?_) (fun _ => Tt.ite (fun h => ?_) (fun _ => Tt.ite (fun h => ?_) (fun _ => Tt.some hQ)))))
  · have := ha h; exact hL (by unfold Okb; omega)
  all_goals exact hL (by unfold Okb; omega)
theorem part_loop (s : ByteArray) (hs : s.size ≤ 4611686018427387904) : ∀ d i : Nat, i + d = s.size → Tt (fun k => ship_isPart.l0 k s (i : Int)) (fun r => r = true → ∀ j : Nat, i ≤ j → j < s.size → Okb (bt s (j : Int)))
  | 0, i, h => Tt.step (f := fun _ => some true) (fun k => by rw [ship_isPart.l0, if_neg (by omega)]) (Tt.some (fun _ j h1 h2 => by omega))
  | d + 1, i, h => by
    have ih0 := part_loop s hs d (i + 1) (by omega)
    have ih : Okb (bt s (i : Int)) → Tt (fun k => ship_isPart.l0 k s (wrap64 ((i : Int) + 1))) (fun r => r = true → ∀ j : Nat, i ≤ j → j < s.size → Okb (bt s (j : Int))) := fun hb => by
      rw [w1 (show i < s.size by omega) hs]
      refine ih0.mono (fun r hr ht j h1 h2 => ?_)
      by_cases e : j = i
      · subst e; exact hb
      · exact hr ht j (by omega) h2
    have hf : false = true → ∀ j : Nat, i ≤ j → j < s.size → Okb (bt s (j : Int)) := fun h => by cases h
    refine Tt.step (fun k => by rw [ship_isPart.l0]) ?_
    refine Tt.ite (fun _ => Tt.ite (fun _ => Tt.ite (fun h97 => Tt.ite (fun h122 => ih (by unfold Okb; omega)) (fun _ => tail_tt _ hf ih)) (fun _ => tail_tt _ hf ih)) (fun h => ?_)) (fun h => ?_)
    all_goals (exfalso; omega)
/-- what a part is -/
def Part (s : ByteArray) : Prop := lst s ≠ [] ∧ ∀ j : Nat, j < s.size → Okb (bt s (j : Int))
theorem part_tt (s : ByteArray) (hs : s.size ≤ 4611686018427387904) : Tt (fun k => ship_isPart.f k s) (fun r => r = true → Part s) := by
  have hl : Tt (fun k => ship_isPart.l0 k s 0) (fun r => r = true → ∀ j : Nat, 0 ≤ j → j < s.size → Okb (bt s (j : Int))) := part_loop s hs s.size 0 (by omega)
  have j1 : Tt (fun k => ship_isPart.j0 k s true) (fun r => r = true → Part s) := Tt.step (f := fun _ => some false) (fun k => by rw [ship_isPart.j0, if_pos rfl]) (Tt.some (fun h => by cases h))
  unfold ship_isPart.f
  refine Tt.ite (fun _ => j1) (fun hne => Tt.ite (fun _ => j1) (fun _ => Tt.ite (fun _ => j1) (fun _ => ?_)))
  rw [lst_tl] at hne
  cases hb : (s.toList == ([46, 46] : List UInt8)) with
  | true => exact j1
  | false => exact Tt.step (f := fun k => ship_isPart.l0 k s 0) (fun k => by rw [ship_isPart.j0, if_neg (by decide)]) (hl.mono (fun r hr ht => ⟨hne, fun j hj => hr ht j (Nat.zero_le _) hj⟩))
theorem rdOf_at {l : List ByteArray} {i : Nat} (h : i < l.length) : rdOf ByteArray.empty l (i : Int) = l[i] := by
  unfold rdOf; simp [List.getD_eq_getElem?_getD, h]
theorem path_loop (l : List ByteArray) (hl : l.length ≤ 4611686018427387904) (hall : ∀ p ∈ l, p.size ≤ 4611686018427387904) : ∀ d i : Nat, i + d = l.length → Tt (fun k => ship_isPath.l0 k l (l.length : Int) (i : Int)) (fun r => r = true → ∀ (j : Nat) (h : j < l.length), i ≤ j → Part l[j])
  | 0, i, h => Tt.step (f := fun _ => some true) (fun k => by rw [ship_isPath.l0, if_neg (by omega)]) (Tt.some (fun _ j h1 h2 => by omega))
  | d + 1, i, h => by
    have ih := path_loop l hl hall d (i + 1) (by omega)
    have hp := part_tt (rdOf ByteArray.empty l (i : Int)) (by rw [rdOf_at (show i < l.length by omega)]; exact hall _ (List.getElem_mem _))
    refine Tt.step (fun k => by rw [ship_isPath.l0]) ?_
    refine Tt.ite (fun _ => Tt.ite (fun _ => Tt.ite (fun _ => Tt.bind hp (fun a _ ha => Tt.ite (fun hat => ?_) (fun _ => Tt.some (fun h => by cases h)))) (fun h => ?_)) (fun h => ?_)) (fun h => ?_)
    · have hpt := ha hat
      rw [w1 (show i < l.length by omega) hl]
      refine ih.mono (fun r hr ht j h1 h2 => ?_)
      by_cases e : j = i
      · subst e
        rw [rdOf_at h1] at hpt
        exact hpt
      · exact hr ht j h1 (by omega)
    all_goals (exfalso; omega)
/-! ### Cuts -/
theorem cutAll_sz {c : UInt8} : ∀ {L : List UInt8}, ∀ p ∈ cutAll c L, p.length ≤ L.length
  | [], p, h => by simp [cutAll] at h; rw [h]; simp
  | x :: L, p, h => by
    unfold cutAll at h
    have ih := cutAll_sz (c := c) (L := L)
    have hne := cutAll_ne c L
    generalize cutAll c L = Q at *
    match Q, hne with
    | q :: qs, _ =>
      by_cases e : x = c
      · rw [if_pos e] at h
        rcases List.mem_cons.1 h with rfl | h
        · simp
        · have := ih p h; simp; omega
      · rw [if_neg e] at h
        simp only [List.headD_cons, List.tail_cons, List.mem_cons] at h
        rcases h with rfl | h
        · have := ih q (by simp); simp; omega
        · have := ih p (by simp [h]); simp; omega
theorem cutAll_mem {c y : UInt8} : ∀ {L : List UInt8}, y ∈ L → y = c ∨ ∃ p ∈ cutAll c L, y ∈ p
  | [], h => by cases h
  | x :: L, h => by
    unfold cutAll
    have ih := cutAll_mem (c := c) (y := y) (L := L)
    have hne := cutAll_ne c L
    generalize cutAll c L = Q at *
    match Q, hne with
    | q :: qs, _ =>
      by_cases e : x = c
      · rw [if_pos e]
        rcases List.mem_cons.1 h with h | h
        · exact .inl (h.trans e)
        · rcases ih h with h | ⟨p, hp, hy⟩
          · exact .inl h
          · exact .inr ⟨p, List.mem_cons_of_mem _ hp, hy⟩
      · rw [if_neg e]
        simp only [List.headD_cons, List.tail_cons]
        rcases List.mem_cons.1 h with h | h
        · exact .inr ⟨x :: q, by simp, by simp [h]⟩
        · rcases ih h with h | ⟨p, hp, hy⟩
          · exact .inl h
          · rcases List.mem_cons.1 hp with rfl | hp
            · exact .inr ⟨x :: p, by simp, List.mem_cons_of_mem _ hy⟩
            · exact .inr ⟨p, List.mem_cons_of_mem _ hp, hy⟩
theorem cutAll_end (c : UInt8) : ∀ L : List UInt8, cutAll c (L ++ [c]) = cutAll c L ++ [[]]
  | [] => by simp [cutAll]
  | x :: L => by
    have ih := cutAll_end c L
    have hne := cutAll_ne c L
    show cutAll c (x :: (L ++ [c])) = _
    unfold cutAll
    rw [ih]
    generalize cutAll c L = Q at *
    match Q, hne with
    | q :: qs, _ =>
      by_cases e : x = c
      · rw [if_pos e, if_pos e]; rfl
      · rw [if_neg e, if_neg e]; rfl
/-! ### Paths -/
/-- a byte of a path -/
def Okp (c : UInt8) : Prop := c ≠ 35 ∧ c ≠ 37 ∧ c ≠ 63
structure Good (s : ByteArray) : Prop where
  sz : s.size ≤ 200
  ne : lst s ≠ []
  by' : ∀ c ∈ lst s, Okp c
  nd : ∀ L, lst s ≠ L ++ [47]
theorem okp_of {s : ByteArray} (h : Part s) : ∀ c ∈ lst s, Okp c := by
  intro c hc
  obtain ⟨j, hj, rfl⟩ := List.mem_iff_getElem.1 hc
  have h1 := h.2 j (by rw [lst_len] at hj; exact hj)
  rw [bt_lst hj] at h1
  obtain ⟨a, b, d, _⟩ := h1
  refine ⟨fun e => a ?_, fun e => b ?_, fun e => d ?_⟩ <;> (rw [e]; rfl)
theorem path_tt (s : ByteArray) : Tt (fun k => ship_isPath.f k s) (fun r => r = true → Good s) := by
  unfold ship_isPath.f
  refine Tt.ite (fun _ => Tt.some (fun h => by cases h)) (fun hs => ?_)
  have hsz := Lib.size_eq s
  have e : strings_Split.f s (⟨#[47]⟩ : ByteArray) = some (cutB 47 s) := by
    unfold strings_Split.f; rw [if_pos ⟨rfl, by omega⟩]; rfl
  refine Tt.bind (g := fun _ => strings_Split.f s (⟨#[47]⟩ : ByteArray)) (Q := fun r => r = cutB 47 s) ⟨cutB 47 s, Ev.congr (fun _ => e) (Ev.now _), rfl⟩ ?_
  rintro r _ rfl
  refine (path_loop _ ?_ ?_ (cutB 47 s).length 0 (by omega)).mono (fun r hr ht => ?_)
  · unfold cutB
    rw [List.length_map, cutAll_len]
    have : Lib.countByte s.data.toList 47 ≤ (s.data.toList.length : Nat) := by unfold Lib.countByte; exact_mod_cast List.count_le_length
    omega
  · intro p hp
    unfold cutB at hp
    obtain ⟨q, hq, rfl⟩ := List.mem_map.1 hp
    have := cutAll_sz q hq
    have h2 := Lib.size_eq (⟨q.toArray⟩ : ByteArray)
    simp at h2
    omega
  · have hall : ∀ q ∈ cutAll 47 (lst s), Part ⟨q.toArray⟩ := fun q hq => by
      have hm : (⟨q.toArray⟩ : ByteArray) ∈ cutB 47 s := List.mem_map.2 ⟨q, hq, rfl⟩
      obtain ⟨j, hj, e⟩ := List.mem_iff_getElem.1 hm
      rw [← e]
      exact hr ht j hj (Nat.zero_le _)
    refine ⟨by omega, fun h0 => ?_, fun c hc => ?_, fun L hL => ?_⟩
    · have := (hall [] (by rw [h0]; simp [cutAll])).1
      exact this rfl
    · rcases cutAll_mem (c := 47) hc with rfl | ⟨q, hq, hy⟩
      · unfold Okp; decide
      · exact okp_of (hall q hq) c hy
    · have := (hall [] (by rw [hL, cutAll_end]; simp)).1
      exact this rfl
theorem path_of {k : Nat} {s : ByteArray} (h : ship_isPath.f k s = some true) : Ev (fun k => ship_isPath.f k s) true ∧ Good s := by
  have h1 := Ev.of (ship_isPath.mono s) h
  obtain ⟨r, h2, h3⟩ := path_tt s
  exact ⟨h1, h3 (Ev.uniq h2 h1)⟩
end Go.Proofs.YtbldjamcnohfjaaDoor.Pure
