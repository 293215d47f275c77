/- What Fingerprint puts into a path Plain takes out again, for every path and body; no condition. -/
import Derived.Test.YthagabjcoknogaaDoorPAssetRoundx4
import Derived.Test.YthagabjcoknogaaDoorBytes
namespace Go.Proofs.YthagabjcoknogaaDoor.Pure
open Go.RowKit Go.Proofs.YthagabjcoknogaaDoor.PAssetRound Go.Proofs.YthagabjcoknogaaDoorW.PrintWords Go.Proofs.YthagabjcoknogaaDoorW.PrintLast Go.Proofs.YthagabjcoknogaaDoorW.PrintMore
set_option linter.unusedVariables false
set_option linter.unusedSimpArgs false

/-! the last place of a byte -/
theorem li_loop {s : ByteArray} {c : UInt8} (hs : s.size ≤ 1000000) : ∀ d : Nat, d ≤ s.size → (∀ i (h : i < (lst s).length), d ≤ i → (lst s)[i] ≠ c) →
    (c ∉ lst s → ∀ k, bytealg_LastIndexByteString.l0 (d + 1 + k) s c.toNat ((d : Int) - 1) = some (-1)) ∧
    (∀ A B, lst s = A ++ c :: B → c ∉ B → ∀ k, bytealg_LastIndexByteString.l0 (d + 1 + k) s c.toNat ((d : Int) - 1) = some (A.length : Int)) := by
  intro d
  induction d with
  | zero =>
    intro _ hall
    refine ⟨fun _ k => ?_, fun A B h _ => ?_⟩
    · rw [show 0 + 1 + k = k + 1 by omega, bytealg_LastIndexByteString.l0, if_neg (by omega)]
    · exact absurd (by simp [h]) (hall A.length (by rw [h]; simp) (by omega))
  | succ d ih =>
    intro hd hall
    have hlt : d < (lst s).length := by rw [lst_len]; omega
    have step : ∀ k, bytealg_LastIndexByteString.l0 (d + 1 + 1 + k) s c.toNat (((d + 1 : Nat) : Int) - 1) = if (((lst s)[d]).toNat : Int) = c.toNat then some (d : Int) else bytealg_LastIndexByteString.l0 (d + 1 + k) s c.toNat ((d : Int) - 1) := by
      intro k
      rw [show d + 1 + 1 + k = (d + 1 + k) + 1 by omega, show ((d + 1 : Nat) : Int) - 1 = (d : Int) by omega, bytealg_LastIndexByteString.l0, if_pos (by omega), if_pos (by omega), if_pos (by omega), bt_lst hlt, w64 (by omega) (by omega)]
    by_cases e : (lst s)[d] = c
    · refine ⟨fun hn => absurd (e ▸ List.getElem_mem hlt) hn, fun A B h hB k => ?_⟩
      have hA : A.length = d := by
        rcases Nat.lt_trichotomy A.length d with h1 | h1 | h1
        · exfalso
          apply hB
          rw [← e, get_mid' h h1 hlt]; exact List.getElem_mem _
        · exact h1
        · exact absurd (by simp [h]) (hall A.length (by rw [h]; simp) (by omega))
      rw [step, if_pos (by rw [e]), hA]
    · have ih' := ih (by omega) (fun i h hi => by
        by_cases hq : i = d
        · subst hq; exact e
        · exact hall i h (by omega))
      have hne : ¬ (((lst s)[d]).toNat : Int) = c.toNat := fun h => e (u8_eq.1 h)
      exact ⟨fun hn k => by rw [step, if_neg hne]; exact ih'.1 hn k, fun A B h hB k => by rw [step, if_neg hne]; exact ih'.2 A B h hB k⟩
theorem li_eq (s : ByteArray) (c : UInt8) (k : Nat) (hs : s.size ≤ 1000000) : strings_LastIndexByte.f k s c.toNat = bytealg_LastIndexByteString.l0 k s c.toNat ((s.size : Int) - 1) := by
  unfold strings_LastIndexByte.f bytealg_LastIndexByteString.f
  rw [w64 (by omega) (by omega)]
  cases bytealg_LastIndexByteString.l0 k s c.toNat ((s.size : Int) - 1) <;> rfl
theorem last_no {s : ByteArray} {c : UInt8} (hs : s.size ≤ 1000000) (h : c ∉ lst s) : ∀ k, s.size + 1 ≤ k → strings_LastIndexByte.f k s c.toNat = some (-1) := by
  intro k hk
  rw [li_eq s c k hs]
  have := (li_loop hs s.size (Nat.le_refl _) (fun i h hi => by rw [lst_len] at h; omega)).1 h (k - s.size - 1)
  rwa [show s.size + 1 + (k - s.size - 1) = k by omega] at this
theorem last_yes {s : ByteArray} {c : UInt8} {A B : List UInt8} (hs : s.size ≤ 1000000) (h : lst s = A ++ c :: B) (hB : c ∉ B) : ∀ k, s.size + 1 ≤ k → strings_LastIndexByte.f k s c.toNat = some (A.length : Int) := by
  intro k hk
  rw [li_eq s c k hs]
  have := (li_loop hs s.size (Nat.le_refl _) (fun i h hi => by rw [lst_len] at h; omega)).2 A B h hB (k - s.size - 1)
  rwa [show s.size + 1 + (k - s.size - 1) = k by omega] at this
/-- A path parted from its last part. -/
theorem cut_at {s d l : ByteArray} (hs : s.size ≤ 1000000) (h : lst s = lst d ++ lst l) (hl : (47 : UInt8) ∉ lst l) (hd : lst d = [] ∨ ∃ D, lst d = D ++ [47]) : ∀ k, s.size + 1 ≤ k → asset_cutLast.f k s = some (d, l) := by
  intro k hk
  have hlen : s.size = d.size + l.size := by rw [← lst_len, h, List.length_append, lst_len, lst_len]
  have key : strings_LastIndexByte.f k s 47 = some ((d.size : Int) - 1) := by
    rcases hd with hd | ⟨D, hd⟩
    · have h0 : d.size = 0 := by rw [← lst_len, hd]; rfl
      rw [h0]
      exact last_no (c := 47) hs (by rw [h, hd]; exact hl) k hk
    · have h0 : d.size = D.length + 1 := by rw [← lst_len, hd]; simp
      rw [show strings_LastIndexByte.f k s 47 = _ from last_yes (s := s) (c := 47) (A := D) (B := lst l) hs (by rw [h, hd]; simp) hl k hk]
      congr 1; omega
  unfold asset_cutLast.f
  rw [key, Option.bind_some, w64 (by omega) (by omega), show (d.size : Int) - 1 + 1 = d.size by omega, if_pos (by omega), if_pos (by omega)]
  congr 1
  rw [Prod.mk.injEq]
  constructor
  · apply lst_inj; rw [lst_front, h, Int.toNat_natCast, app_take (lst_len d)]
  · apply lst_inj; rw [lst_end, h, Int.toNat_natCast, app_drop (lst_len d)]
theorem cut_any (s : ByteArray) : ∃ d l : ByteArray, lst s = lst d ++ lst l ∧ (47 : UInt8) ∉ lst l ∧ (lst d = [] ∨ ∃ D, lst d = D ++ [47]) := by
  by_cases h : (47 : UInt8) ∈ lst s
  · obtain ⟨A, B, h, hB⟩ := last_of h
    exact ⟨⟨(A ++ [47]).toArray⟩, ⟨B.toArray⟩, by rw [lst_mk (A ++ [47]), lst_mk B, h]; simp, by rw [lst_mk B]; exact hB, .inr ⟨A, lst_mk _⟩⟩
  · exact ⟨⟨#[]⟩, s, rfl, h, .inl rfl⟩

/-! paths -/
theorem small_ev (c : Int) : ∃ b, tree_isSmall.f c = some b := by unfold tree_isSmall.f; split <;> exact ⟨_, rfl⟩
theorem digit_ev (c : Int) : ∃ b, tree_isDigit.f c = some b := by unfold tree_isDigit.f; split <;> exact ⟨_, rfl⟩
theorem part_loop (s : ByteArray) (hs : s.size ≤ 1000000) : ∀ d i : Nat, i + d = s.size → ∃ b, ∀ k, tree_isPart.l0 (d + 1 + k) s i = some b := by
  intro d
  induction d with
  | zero => exact fun i hi => ⟨true, fun k => by rw [show 0 + 1 + k = k + 1 by omega, tree_isPart.l0, if_neg (by omega)]⟩
  | succ d ih =>
    intro i hi
    obtain ⟨b, hb⟩ := ih (i + 1) (by omega)
    obtain ⟨b1, h1⟩ := small_ev (bt s i)
    obtain ⟨b2, h2⟩ := digit_ev (bt s i)
    have hw : wrap64 ((i : Int) + 1) = ((i + 1 : Nat) : Int) := by rw [w64 (by omega) (by omega)]; omega
    have e : ∀ k, tree_isPart.l0 (d + 1 + 1 + k) s i = if b1 = true then some b else if b2 = true then some b else if bt s i = 45 then some b else if bt s i = 95 then some b else if bt s i = 46 then some b else some false := by
      intro k
      rw [show d + 1 + 1 + k = (d + 1 + k) + 1 by omega, tree_isPart.l0, if_pos (by omega), if_pos (by omega), h1, Option.bind_some, hw, hb k, h2, Option.bind_some]
    by_cases c1 : b1 = true
    · exact ⟨b, fun k => by rw [e, if_pos c1]⟩
    by_cases c2 : b2 = true
    · exact ⟨b, fun k => by rw [e, if_neg c1, if_pos c2]⟩
    by_cases c3 : bt s i = 45
    · exact ⟨b, fun k => by rw [e, if_neg c1, if_neg c2, if_pos c3]⟩
    by_cases c4 : bt s i = 95
    · exact ⟨b, fun k => by rw [e, if_neg c1, if_neg c2, if_neg c3, if_pos c4]⟩
    by_cases c5 : bt s i = 46
    · exact ⟨b, fun k => by rw [e, if_neg c1, if_neg c2, if_neg c3, if_neg c4, if_pos c5]⟩
    · exact ⟨false, fun k => by rw [e, if_neg c1, if_neg c2, if_neg c3, if_neg c4, if_neg c5]⟩
theorem part_ev (s : ByteArray) (hs : s.size ≤ 1000000) : ∃ b, (∀ k, s.size + 2 ≤ k → tree_isPart.f k s = some b) ∧ (b = true → lst s ≠ []) := by
  obtain ⟨b, hb⟩ := part_loop s hs s.size 0 (by omega)
  have j0 : ∀ k, s.size + 2 ≤ k → tree_isPart.j0 k s false = some b := by
    intro k hk
    obtain ⟨j, rfl⟩ : ∃ j, k = (s.size + 1 + j) + 1 := ⟨k - s.size - 2, by omega⟩
    rw [tree_isPart.j0, if_neg (by simp)]; exact hb j
  have j1 : ∀ k, s.size + 2 ≤ k → tree_isPart.j0 k s true = some false := by
    intro k hk
    obtain ⟨j, rfl⟩ : ∃ j, k = j + 1 := ⟨k - 1, by omega⟩
    rw [tree_isPart.j0, if_pos rfl]
  have hl := lst_tl s
  by_cases c1 : s.toList = ([] : List UInt8)
  · exact ⟨false, fun k hk => by unfold tree_isPart.f; rw [if_pos c1]; exact j1 k hk, fun h => by cases h⟩
  have hne : lst s ≠ [] := by rw [← hl]; exact c1
  by_cases c2 : (s.size : Int) > 40
  · exact ⟨false, fun k hk => by unfold tree_isPart.f; rw [if_neg c1, if_pos c2]; exact j1 k hk, fun h => by cases h⟩
  by_cases c3 : s.toList = ([46] : List UInt8)
  · exact ⟨false, fun k hk => by unfold tree_isPart.f; rw [if_neg c1, if_neg c2, if_pos c3]; exact j1 k hk, fun h => by cases h⟩
  cases c4 : (s.toList == ([46, 46] : List UInt8)) with
  | true => exact ⟨false, fun k hk => by unfold tree_isPart.f; rw [if_neg c1, if_neg c2, if_neg c3, c4]; exact j1 k hk, fun h => by cases h⟩
  | false => exact ⟨b, fun k hk => by unfold tree_isPart.f; rw [if_neg c1, if_neg c2, if_neg c3, c4]; exact j0 k hk, fun _ => hne⟩
theorem rdOf_at {l : List ByteArray} {i : Nat} (h : i < l.length) : rdOf ByteArray.empty l (i : Int) = l[i] := by
  unfold rdOf; simp [List.getD_eq_getElem?_getD, h]
theorem path_loop (l : List ByteArray) (n : Nat) (hn : n ≤ 1000000) (hl : l.length ≤ 1000000) (hall : ∀ p ∈ l, p.size ≤ n) : ∀ d i : Nat, i + d = l.length → ∃ b, (∀ k, tree_isPath.l0 (d + n + 3 + k) l l.length i = some b) ∧ (b = true → ∀ j (h : j < l.length), i ≤ j → lst l[j] ≠ []) := by
  intro d
  induction d with
  | zero => exact fun i hi => ⟨true, fun k => by rw [show 0 + n + 3 + k = (n + 2 + k) + 1 by omega, tree_isPath.l0, if_neg (by omega)], fun _ j h hj => by omega⟩
  | succ d ih =>
    intro i hi
    have hlt : i < l.length := by omega
    obtain ⟨b, hb, hb2⟩ := ih (i + 1) (by omega)
    obtain ⟨p, hp, hp2⟩ := part_ev l[i] (Nat.le_trans (hall _ (List.getElem_mem hlt)) hn)
    have hsz := hall _ (List.getElem_mem hlt)
    have hw : wrap64 ((i : Int) + 1) = ((i + 1 : Nat) : Int) := by rw [w64 (by omega) (by omega)]; omega
    have e : ∀ k, tree_isPath.l0 (d + 1 + n + 3 + k) l l.length i = if p = true then some b else some false := by
      intro k
      rw [show d + 1 + n + 3 + k = (d + n + 3 + k) + 1 by omega, tree_isPath.l0, if_pos (by omega), if_pos (by omega), if_pos (by omega), rdOf_at hlt, hp _ (by omega), Option.bind_some, hw, hb k]
    cases p with
    | true =>
      refine ⟨b, fun k => by rw [e, if_pos rfl], fun h j hj hij => ?_⟩
      by_cases hji : j = i
      · subst hji; exact hp2 rfl
      · exact hb2 h j hj (by omega)
    | false => exact ⟨false, fun k => by rw [e, if_neg (by simp)], fun h => by cases h⟩
theorem cutAll_sz {c : UInt8} : ∀ {L : List UInt8}, ∀ p ∈ cutAll c L, p.length ≤ L.length
  | [], p, h => by simp [cutAll] at h; rw [h]; simp
  | x :: L, p, h => by
    unfold cutAll at h
    have ih := cutAll_sz (c := c) (L := L)
    have hne := cutAll_ne c L
    generalize cutAll c L = Q at *
    match Q, hne with
    | q :: qs, _ =>
      by_cases e : x = c
      · rw [if_pos e] at h
        rcases List.mem_cons.1 h with rfl | h
        · simp
        · have := ih p h; simp; omega
      · rw [if_neg e] at h
        simp only [List.headD_cons, List.tail_cons, List.mem_cons] at h
        rcases h with rfl | h
        · have := ih q (by simp); simp; omega
        · have := ih p (by simp [h]); simp; omega
theorem cutAll_last {c : UInt8} {l : List UInt8} (hl : c ∉ l) : ∀ {D : List UInt8}, l ∈ cutAll c (D ++ c :: l)
  | [] => by
    simp only [List.nil_append]
    unfold cutAll
    rw [if_pos rfl, cutAll_miss (index_no hl)]; simp
  | x :: D => by
    have ih := cutAll_last (l := l) (c := c) hl (D := D)
    have h2 : 2 ≤ (cutAll c (D ++ c :: l)).length := by
      rw [cutAll_len]; unfold Lib.countByte; rw [List.count_append, List.count_cons_self]; omega
    show l ∈ cutAll c (x :: (D ++ c :: l))
    unfold cutAll
    split
    · exact List.mem_cons_of_mem _ ih
    · -- the last piece is in the tail, as there are two at least
      have hlast : (cutAll c (D ++ c :: l)).getLast? = some l := by
        clear ih h2
        induction D with
        | nil => rw [List.nil_append]; unfold cutAll; rw [if_pos rfl, cutAll_miss (index_no hl)]; rfl
        | cons y D ihD =>
          show (cutAll c (y :: (D ++ c :: l))).getLast? = some l
          have h2 : 2 ≤ (cutAll c (D ++ c :: l)).length := by
            rw [cutAll_len]; unfold Lib.countByte; rw [List.count_append, List.count_cons_self]; omega
          unfold cutAll
          generalize cutAll c (D ++ c :: l) = Q at *
          match Q, h2 with
          | a :: b :: q, _ =>
            split
            · simpa using ihD
            · simpa using ihD
      generalize cutAll c (D ++ c :: l) = Q at *
      match Q, h2 with
      | a :: b :: q, _ =>
        simp only [List.tail_cons]
        apply List.mem_cons_of_mem
        rw [List.getLast?_cons_cons] at hlast
        exact List.mem_of_getLast? hlast
/-- Whether a text is a path is told; the last part of one has a byte. -/
theorem path_ev (s : ByteArray) : ∃ b K, (∀ k, K ≤ k → tree_isPath.f k s = some b) ∧ (b = true → s.size ≤ 200 ∧ ∀ d l : ByteArray, lst s = lst d ++ lst l → (47 : UInt8) ∉ lst l → (lst d = [] ∨ ∃ D, lst d = D ++ [47]) → lst l ≠ []) := by
  by_cases h : (s.size : Int) > 200
  · exact ⟨false, 0, fun k _ => by unfold tree_isPath.f; rw [if_pos h], fun h => by cases h⟩
  · have hsp : strings_Split.f s (⟨#[47]⟩ : ByteArray) = some (cutB 47 s) := by
      unfold strings_Split.f; rw [if_pos ⟨rfl, by omega⟩]; rfl
    have hlen : (cutB 47 s).length ≤ 201 := by
      rw [cutB_len]; have := countByte_le s.data.toList 47; have := Lib.size_eq s; omega
    have hall : ∀ p ∈ cutB 47 s, p.size ≤ 200 := by
      intro p hp
      unfold cutB at hp
      obtain ⟨q, hq, rfl⟩ := List.mem_map.1 hp
      have := cutAll_sz q hq
      have h2 := Lib.size_eq s
      rw [← lst_len, lst_mk]; omega
    obtain ⟨b, hb, hb2⟩ := path_loop (cutB 47 s) 200 (by omega) (by omega) hall (cutB 47 s).length 0 (by omega)
    refine ⟨b, (cutB 47 s).length + 200 + 3, fun k hk => ?_, fun h => ⟨by omega, fun d l e hl hd => ?_⟩⟩
    · obtain ⟨j, rfl⟩ : ∃ j, k = (cutB 47 s).length + 200 + 3 + j := ⟨k - ((cutB 47 s).length + 200 + 3), by omega⟩
      unfold tree_isPath.f
      rw [if_neg h, hsp, Option.bind_some]
      exact hb j
    · have hm : lst l ∈ cutAll 47 (lst s) := by
        rcases hd with hd | ⟨D, hd⟩
        · rw [e, hd, List.nil_append, cutAll_miss (index_no hl)]; simp
        · rw [e, hd, List.append_assoc]; exact cutAll_last hl
      have hm2 : l ∈ cutB 47 s := by
        unfold cutB
        exact List.mem_map.2 ⟨_, hm, mk_lst l⟩
      obtain ⟨j, hj, rfl⟩ := List.mem_iff_getElem.1 hm2
      exact hb2 h j hj (by omega)
end Go.Proofs.YthagabjcoknogaaDoor.Pure
namespace Go.Proofs.YthagabjcoknogaaDoor.Pure
open Go.RowKit Go.Proofs.YthagabjcoknogaaDoor.PAssetRound Go.Proofs.YthagabjcoknogaaDoorW.PrintWords Go.Proofs.YthagabjcoknogaaDoorW.PrintLast Go.Proofs.YthagabjcoknogaaDoorW.PrintMore
set_option linter.unusedVariables false
set_option linter.unusedSimpArgs false
theorem check_path {s : ByteArray} {b : Bool} {k : Nat} (h : tree_isPath.f k s = some b) : tree_CheckPath.f k s = some (if b = true then 0 else 3) ∧ asset_isPath.f k s = some b := by
  have e : tree_CheckPath.f k s = some (if b = true then 0 else 3) := by
    unfold tree_CheckPath.f; rw [h, Option.bind_some]; cases b <;> rfl
  refine ⟨e, ?_⟩
  unfold asset_isPath.f; rw [e, Option.bind_some]; cases b <;> rfl

/-! the digest's digits -/
def HexB (b : UInt8) : Prop := Lib.indexByte [48, 49, 50, 51, 52, 53, 54, 55, 56, 57, 97, 98, 99, 100, 101, 102] b ≥ 0
theorem hexB_ne {b : UInt8} (h : HexB b) : b ≠ 46 ∧ b ≠ 47 := by
  constructor <;> (rintro rfl; exact absurd h (by unfold HexB; decide))
theorem hex_fin : ∀ j : Fin 16, ∃ b : UInt8, bt (⟨#[48, 49, 50, 51, 52, 53, 54, 55, 56, 57, 97, 98, 99, 100, 101, 102]⟩ : ByteArray) (j.val : Int) = (b.toNat : Int) ∧ Lib.indexByte [48, 49, 50, 51, 52, 53, 54, 55, 56, 57, 97, 98, 99, 100, 101, 102] b ≥ 0 := by
  intro j
  refine ⟨(#[48, 49, 50, 51, 52, 53, 54, 55, 56, 57, 97, 98, 99, 100, 101, 102] : Array UInt8)[j.val]'(by simp), ?_, ?_⟩
  · revert j; decide
  · revert j; decide
theorem hexd_hex {x : Int} (h0 : 0 ≤ x) (h1 : x < 4294967296) (m : Nat) : ∃ b : UInt8, hexd x m = (b.toNat : Int) ∧ HexB b := by
  obtain ⟨a, b⟩ := hexd_at h0 h1 m
  unfold hexd
  obtain ⟨n, hn⟩ := Int.eq_ofNat_of_zero_le a
  rw [hn]
  rw [hn] at b
  exact hex_fin ⟨n, by omega⟩
theorem hex8_hex {x : Int} (h0 : 0 ≤ x) (h1 : x < 4294967296) : ∀ m z, z ∈ hex8 x m → ∃ b : UInt8, z = (b.toNat : Int) ∧ HexB b
  | 0, z, h => by simp [hex8] at h
  | m + 1, z, h => by
    rw [hex8, List.mem_append, List.mem_singleton] at h
    rcases h with h | rfl
    · exact hex8_hex h0 h1 m z h
    · exact hexd_hex h0 h1 m
theorem outL_hex {n : Int × Int × Int × Int} (hn : InR n) : ∀ j z, z ∈ outL n j → ∃ b : UInt8, z = (b.toNat : Int) ∧ HexB b
  | 0, z, h => by simp [outL] at h
  | j + 1, z, h => by
    rw [outL, List.mem_append] at h
    rcases h with h | h
    · exact outL_hex hn j z h
    · exact hex8_hex (hn j).1 (hn j).2 8 z h
theorem digest_hex (s : ByteArray) : (lst (digestS s)).length = 32 ∧ ∀ b ∈ lst (digestS s), HexB b := by
  refine ⟨by rw [← lst_tl]; exact digestS_len s, fun b hb => ?_⟩
  unfold digestS lst strOfNums at hb
  simp only [List.mem_map] at hb
  obtain ⟨z, hz, rfl⟩ := hb
  obtain ⟨b, rfl, h⟩ := outL_hex (step_InR _ _ : InR (run3 _ (15 + 1))) 4 z hz
  simpa using h

/-! digits at a place -/
theorem dig_loop {s : ByteArray} {a : Nat} (hs : s.size ≤ 1000000) (ha : a + 12 ≤ s.size) (hx : ∀ i (h : i < (lst s).length), a ≤ i → i < a + 12 → HexB (lst s)[i]) : ∀ d i : Nat, i + d = a + 12 → a ≤ i → ∀ k, asset_digitsAt.l0 (d + 1 + k) s a i = some true := by
  intro d
  induction d with
  | zero => exact fun i hi _ k => by rw [show 0 + 1 + k = k + 1 by omega, asset_digitsAt.l0, w64 (by omega) (by omega), if_neg (by omega)]
  | succ d ih =>
    intro i hi hai k
    have hlt : i < (lst s).length := by rw [lst_len]; omega
    have hb := hx i hlt hai (by omega)
    rw [show d + 1 + 1 + k = (d + 1 + k) + 1 by omega, asset_digitsAt.l0, w64 (n := (a : Int) + 12) (by omega) (by omega), if_pos (by omega), if_pos (by omega), if_pos (by omega), bt_lst hlt]
    unfold strings_IndexByte.f
    rw [u8_of, Option.bind_some, if_neg (by unfold HexB at hb; show ¬ Lib.indexByte [48, 49, 50, 51, 52, 53, 54, 55, 56, 57, 97, 98, 99, 100, 101, 102] (lst s)[i] < 0; omega), w64 (by omega) (by omega), show (i : Int) + 1 = ((i + 1 : Nat) : Int) by omega]
    exact ih (i + 1) (by omega) (by omega) k
/-- Twelve digits behind a point are seen. -/
theorem dig_yes {s : ByteArray} {P D Q : List UInt8} (hs : s.size ≤ 1000000) (h : lst s = P ++ 46 :: (D ++ Q)) (hP : P ≠ []) (hD : D.length = 12) (hx : ∀ b ∈ D, HexB b) : ∀ k, 14 ≤ k → asset_digitsAt.f k s ((P.length : Int) + 1) = some true := by
  intro k hk
  have hl := congrArg List.length h
  rw [lst_len] at hl
  simp only [List.length_append, List.length_cons] at hl
  have hP0 : 1 ≤ P.length := List.length_pos_iff.2 hP
  unfold asset_digitsAt.f
  rw [if_neg (by omega), w64 (n := (P.length : Int) + 1 + 12) (by omega) (by omega), if_neg (by omega), w64 (n := (P.length : Int) + 1 - 1) (by omega) (by omega), show (P.length : Int) + 1 - 1 = P.length by omega, if_pos (by omega), if_pos (by omega), bt_mid h]
  obtain ⟨j, rfl⟩ : ∃ j, k = (12 + 1 + j) + 1 := ⟨k - 14, by omega⟩
  rw [asset_digitsAt.j0, if_neg (by simp)]
  have := dig_loop (s := s) (a := P.length + 1) hs (by omega) (fun i hi h1 h2 => by
    rw [get_mid' h (by omega) hi, List.getElem_append_left (by omega)]; exact hx _ (List.getElem_mem _)) 12 (P.length + 1) (by omega) (by omega) j
  rw [show ((P.length + 1 : Nat) : Int) = (P.length : Int) + 1 by omega] at this
  exact this
/-- A place without a point ahead of it is none. -/
theorem dig_no {s : ByteArray} {a : Int} (hs : s.size ≤ 1000000) (ha1 : -100 ≤ a) (ha2 : a + 12 ≤ s.size) (h : ∀ i (hi : i < (lst s).length), (i : Int) = a - 1 → 1 ≤ i → (lst s)[i] ≠ 46) : ∀ k, 1 ≤ k → asset_digitsAt.f k s a = some false := by
  intro k hk
  obtain ⟨j, rfl⟩ : ∃ j, k = j + 1 := ⟨k - 1, by omega⟩
  unfold asset_digitsAt.f
  by_cases c : a < 2
  · rw [if_pos c, asset_digitsAt.j0, if_pos rfl]
  · obtain ⟨n, hn⟩ := Int.eq_ofNat_of_zero_le (show 0 ≤ a - 1 by omega)
    have hlt : n < (lst s).length := by rw [lst_len]; omega
    have hne := h n hlt hn.symm (by omega)
    rw [if_neg c, w64 (n := a + 12) (by omega) (by omega), if_neg (by omega), w64 (n := a - 1) (by omega) (by omega), if_pos (by omega), if_pos (by omega), hn, bt_lst hlt, show ((((lst s)[n]).toNat : Int) != 46) = true from bne_iff_ne.2 (fun e => hne (u8_eq.1 (e.trans (by rfl)))), asset_digitsAt.j0, if_pos rfl]
/-! what is put in, taken out -/
theorem plain_at {name d l' path dg : ByteArray} {P Q : List UInt8} (hname : lst name = lst d ++ lst l') (hsz : name.size ≤ 1000000) (hl' : lst l' = P ++ 46 :: (lst dg ++ Q)) (hP : P ≠ []) (hdg : (lst dg).length = 12) (hx : ∀ b ∈ lst dg, HexB b)
    (h47 : (47 : UInt8) ∉ P ++ Q) (hd : lst d = [] ∨ ∃ D, lst d = D ++ [47]) (hpath : lst path = lst d ++ (P ++ Q)) (hQ : (∃ B, Q = 46 :: B ∧ (46 : UInt8) ∉ B) ∨ (Q = [] ∧ ∀ i (h : i < P.length), 1 ≤ i → P[i] ≠ 46)) :
    ∀ k, name.size + 20 ≤ k → asset_Plain.f k name = some (path, dg, true) := by
  intro k hk
  have hnl : name.size = d.size + l'.size := by rw [← lst_len, hname, List.length_append, lst_len, lst_len]
  have hll := congrArg List.length hl'
  rw [lst_len] at hll
  simp only [List.length_append, List.length_cons, hdg] at hll
  have hP0 : 1 ≤ P.length := List.length_pos_iff.2 hP
  simp only [List.mem_append, not_or] at h47
  have n47 : (47 : UInt8) ∉ lst l' := by
    rw [hl']; simp only [List.mem_append, List.mem_cons, not_or]
    exact ⟨h47.1, by decide, fun h => (hexB_ne (hx _ h)).2 rfl, h47.2⟩
  have hc := cut_at (s := name) (d := d) (l := l') hsz hname n47 hd k (by omega)
  have dy := dig_yes (s := l') (P := P) (D := lst dg) (Q := Q) (by omega) hl' hP hdg hx k (by omega)
  have hpsz : path.size = d.size + (P.length + Q.length) := by rw [← lst_len, hpath, List.length_append, lst_len, List.length_append]
  unfold asset_Plain.f
  rw [hc, Option.bind_some]
  dsimp only
  obtain ⟨j, hj⟩ : ∃ j, k = j + 1 := ⟨k - 1, by omega⟩
  rcases hQ with ⟨B, rfl, hB⟩ | ⟨rfl, hn⟩
  · -- a point behind the digits
    have hli := last_yes (s := l') (c := 46) (A := P ++ 46 :: lst dg) (B := B) (by omega) (by rw [hl']; simp) hB k (by omega)
    have hA : (((P ++ 46 :: lst dg).length : Nat) : Int) = (P.length : Int) + 13 := by simp only [List.length_append, List.length_cons, hdg]; omega
    rw [hA] at hli
    simp only [List.length_cons] at hll
    show ((strings_LastIndexByte.f k l' 46).bind fun t121 => _) = _
    rw [show strings_LastIndexByte.f k l' 46 = _ from hli, Option.bind_some, if_pos (by omega), w64 (by omega) (by omega), show (P.length : Int) + 13 - 12 = (P.length : Int) + 1 by omega, dy, Option.bind_some]
    subst hj
    have z1 : (l'.extract 0 P.length).size = P.length := by rw [← lst_len, lst_front, hl', app_take rfl]
    have z2 : (l'.extract (P.length + 13) l'.size).size = B.length + 1 := by rw [← lst_len, lst_end, hl', List.length_drop]; simp [hdg]; omega
    have t1 : ((P.length : Int)).toNat = P.length := by simp
    have t2 : ((P.length : Int) + 13).toNat = P.length + 13 := by omega
    have t3 : ((P.length : Int) + 1).toNat = P.length + 1 := by omega
    rw [asset_Plain.j0, if_pos rfl, w64 (n := (P.length : Int) + 13 - 13) (by omega) (by omega), show (P.length : Int) + 13 - 13 = P.length by omega, if_pos (by omega), if_pos (by omega), t1, t2, if_pos (by rw [z1]; omega), if_pos (by omega), if_pos (by omega), if_pos (by rw [z2, ByteArray.size_append, z1]; omega), w64 (n := (P.length : Int) + 13 - 12) (by omega) (by omega), show (P.length : Int) + 13 - 12 = (P.length : Int) + 1 by omega, if_pos (by omega), if_pos (by omega), t3]
    congr 1
    rw [Prod.mk.injEq, Prod.mk.injEq]
    refine ⟨lst_inj ?_, lst_inj ?_, rfl⟩
    · rw [lst_app, lst_app, lst_front, lst_end, hl', app_take rfl, show P ++ 46 :: (lst dg ++ 46 :: B) = (P ++ 46 :: lst dg) ++ 46 :: B by simp, app_drop (by simp [hdg]), hpath]; simp
    · rw [lst_ext, hl', show P ++ 46 :: (lst dg ++ 46 :: B) = (P ++ [46]) ++ (lst dg ++ 46 :: B) by simp, app_drop (by simp), app_take (by omega)]
  · -- none
    have n46 : (46 : UInt8) ∉ lst dg := fun h => (hexB_ne (hx _ h)).1 rfl
    rw [List.append_nil] at hl'
    have hli := last_yes (s := l') (c := 46) (A := P) (B := lst dg) (by omega) hl' n46 k (by omega)
    simp only [List.length_nil] at hll
    have dn := dig_no (s := l') (a := (P.length : Int) - 12) (by omega) (by omega) (by omega) (fun i hi he h1 => by
      have hiP : i < P.length := by omega
      have : (lst l')[i] = P[i] := by simp only [hl']; rw [List.getElem_append_left hiP]
      rw [this]; exact hn i hiP h1) k (by omega)
    show ((strings_LastIndexByte.f k l' 46).bind fun t121 => _) = _
    rw [show strings_LastIndexByte.f k l' 46 = _ from hli, Option.bind_some, if_pos (by omega), w64 (by omega) (by omega), dn, Option.bind_some]
    have z1 : (l'.extract 0 P.length).size = P.length := by rw [← lst_len, lst_front, hl', app_take rfl]
    have e1 : wrap64 ((l'.size : Int) - 12) = (P.length : Int) + 1 := by rw [w64 (by omega) (by omega)]; omega
    have t1 : ((P.length : Int)).toNat = P.length := by simp
    have t3 : ((P.length : Int) + 1).toNat = P.length + 1 := by omega
    have dyj : asset_digitsAt.f j l' ((P.length : Int) + 1) = some true := dig_yes (s := l') (P := P) (D := lst dg) (Q := []) (by omega) (by rw [hl']; simp) hP hdg hx j (by omega)
    subst hj
    rw [asset_Plain.j0, if_neg (by simp), e1, dyj, Option.bind_some, if_pos rfl, w64 (n := (P.length : Int) + 1 - 1) (by omega) (by omega), show (P.length : Int) + 1 - 1 = P.length by omega, if_pos (by omega), if_pos (by omega), t1, if_pos (by rw [z1]; omega), if_pos (by omega), if_pos (by omega), t3]
    congr 1
    rw [Prod.mk.injEq, Prod.mk.injEq]
    refine ⟨lst_inj ?_, lst_inj ?_, rfl⟩
    · rw [lst_app, lst_front, hl', app_take rfl, hpath]; simp
    · rw [lst_end, hl', show P ++ 46 :: lst dg = (P ++ [46]) ++ lst dg by simp, app_drop (by simp)]
end Go.Proofs.YthagabjcoknogaaDoor.Pure
namespace Go.Proofs.YthagabjcoknogaaDoor.Pure
open Go.RowKit Go.Proofs.YthagabjcoknogaaDoor.PAssetRound Go.Proofs.YthagabjcoknogaaDoorW.PrintWords Go.Proofs.YthagabjcoknogaaDoorW.PrintLast Go.Proofs.YthagabjcoknogaaDoorW.PrintMore
set_option linter.unusedVariables false
set_option linter.unusedSimpArgs false
theorem has_prefix {s p : ByteArray} (h : p.size ≤ s.size) (e : lst p = (lst s).take p.size) : strings_HasPrefix.f s p = some true := by
  unfold strings_HasPrefix.f stringslite_HasPrefix.f
  rw [if_pos (by omega), if_pos (by omega), if_pos (by omega), Option.bind_some]
  congr 1
  rw [beq_iff_eq, lst_tl, lst_tl, lst_front, e, Int.toNat_natCast]
/-- Where the digits are put: ahead of the last point, or at the end. -/
theorem place (l : ByteArray) (hne : lst l ≠ []) (hs : l.size ≤ 1000000) : ∃ P Q, lst l = P ++ Q ∧ P ≠ [] ∧ ((∃ B, Q = 46 :: B ∧ (46 : UInt8) ∉ B) ∨ (Q = [] ∧ ∀ i (h : i < P.length), 1 ≤ i → P[i] ≠ 46)) ∧
    ∃ x : Int, (∀ k, l.size + 1 ≤ k → strings_LastIndexByte.f k l 46 = some x) ∧ (if x < 1 then (l.size : Int) else x) = (P.length : Int) := by
  by_cases hm : (46 : UInt8) ∈ lst l
  · obtain ⟨A, B, e, hB⟩ := last_of hm
    have hx := last_yes (c := 46) hs e hB
    by_cases hA : A = []
    · subst hA
      refine ⟨lst l, [], by simp, hne, .inr ⟨rfl, fun i h h1 => ?_⟩, _, hx, by rw [if_pos (by simp), lst_len]⟩
      rw [get_mid' e (by simp only [List.length_nil]; omega) h]; intro q; exact hB (q ▸ List.getElem_mem _)
    · have := List.length_pos_iff.2 hA
      exact ⟨A, 46 :: B, e, hA, .inl ⟨B, rfl, hB⟩, _, hx, by rw [if_neg (by omega)]⟩
  · refine ⟨lst l, [], by simp, hne, .inr ⟨rfl, fun i h _ q => hm (q ▸ List.getElem_mem h)⟩, _, last_no (c := 46) hs hm, by rw [if_pos (by decide), lst_len]⟩
theorem AssetRound : mastkeep2_AssetRound.Pure := by
  intro path body hp hb
  obtain ⟨b, K1, h1, hprop⟩ := path_ev path
  by_cases hbig : (body.size : Int) > 200000
  · refine ⟨0, ?_⟩
    unfold mastkeep2_AssetRound.f mastkeep2_awakeAsset.f
    rw [Option.bind_some, if_pos rfl]
    unfold asset_Fingerprint.f
    rw [if_pos hbig, Option.bind_some, if_neg (by decide)]
    show some ((⟨#[]⟩ : ByteArray).toList == ([] : List UInt8)) = some true
    rw [empty_tl]; rfl
  cases b with
  | false =>
    refine ⟨K1, ?_⟩
    unfold mastkeep2_AssetRound.f mastkeep2_awakeAsset.f
    rw [Option.bind_some, if_pos rfl]
    unfold asset_Fingerprint.f
    rw [if_neg hbig, (check_path (h1 K1 (Nat.le_refl _))).2, Option.bind_some, if_neg (by decide), Option.bind_some, if_neg (by decide)]
    show some ((⟨#[]⟩ : ByteArray).toList == ([] : List UInt8)) = some true
    rw [empty_tl]; rfl
  | true =>
    obtain ⟨hsz, hlast⟩ := hprop rfl
    obtain ⟨d, l, hdl, h47, hd⟩ := cut_any path
    have hne := hlast d l hdl h47 hd
    have hpl : path.size = d.size + l.size := by rw [← lst_len, hdl, List.length_append, lst_len, lst_len]
    obtain ⟨P, Q, hPQ, hP, hQ, x, hx, hxP⟩ := place l hne (by omega)
    obtain ⟨hD32, hDx⟩ := digest_hex body
    have hDs : (digestS body).size = 32 := by rw [← lst_len]; exact hD32
    have hll : l.size = P.length + Q.length := by rw [← lst_len, hPQ, List.length_append]
    have hP0 : 1 ≤ P.length := List.length_pos_iff.2 hP
    -- the name
    obtain ⟨dg, hdg⟩ : ∃ dg, (digestS body).extract 0 12 = dg := ⟨_, rfl⟩
    have hdgl : lst dg = (lst (digestS body)).take 12 := by rw [← hdg, lst_front]
    have hdg12 : (lst dg).length = 12 := by rw [hdgl, List.length_take]; omega
    have hdgs : dg.size = 12 := by rw [← lst_len]; exact hdg12
    have hdgx : ∀ b ∈ lst dg, HexB b := fun b hb => hDx b (List.mem_of_mem_take (hdgl ▸ hb))
    obtain ⟨name, hname⟩ : ∃ name, (((d ++ l.extract 0 P.length) ++ (⟨#[46]⟩ : ByteArray)) ++ dg) ++ l.extract P.length l.size = name := ⟨_, rfl⟩
    have z1 : (l.extract 0 P.length).size = P.length := by rw [← lst_len, lst_front, hPQ, app_take rfl]
    have z2 : (l.extract P.length l.size).size = Q.length := by rw [← lst_len, lst_end, hPQ, app_drop rfl]
    have z0 : (⟨#[46]⟩ : ByteArray).size = 1 := rfl
    have hnl : lst name = lst d ++ (P ++ 46 :: (lst dg ++ Q)) := by
      rw [← hname, lst_app, lst_app, lst_app, lst_app, lst_front, lst_end, hPQ, app_take rfl, app_drop rfl, show lst (⟨#[46]⟩ : ByteArray) = [46] from rfl]; simp
    have hns : name.size ≤ 1000 := by rw [← lst_len, hnl]; simp [lst_len, hdgs]; omega
    obtain ⟨b2, K2, h2, -⟩ := path_ev name
    have hpl2 := plain_at (name := name) (d := d) (l' := ⟨(P ++ 46 :: (lst dg ++ Q)).toArray⟩) (path := path) (dg := dg) (P := P) (Q := Q) (by rw [lst_mk (P ++ 46 :: (lst dg ++ Q)), hnl]) (by omega) (lst_mk _) hP hdg12 hdgx (by rw [← hPQ]; exact h47) hd (by rw [hdl, hPQ]) hQ
    have hcut := cut_at (s := path) (d := d) (l := l) (by omega) hdl h47 hd
    -- Fingerprint
    have hfp : ∀ k, K1 + K2 + path.size + l.size + 10 ≤ k → asset_Fingerprint.f k path body = some (if b2 = true then (name, 0) else (⟨#[]⟩, 3)) := by
      intro k hk
      obtain ⟨j, rfl⟩ : ∃ j, k = j + 1 := ⟨k - 1, by omega⟩
      unfold asset_Fingerprint.f
      rw [if_neg hbig, (check_path (h1 _ (by omega))).2, Option.bind_some, if_pos rfl, hcut _ (by omega), Option.bind_some]
      dsimp only
      rw [hx _ (by omega), Option.bind_some]
      have hj0 : asset_Fingerprint.j0 (j + 1) body d l (P.length : Int) = some (if b2 = true then (name, 0) else (⟨#[]⟩, 3)) := by
        have t1 : ((P.length : Int)).toNat = P.length := by simp
        rw [asset_Fingerprint.j0, if_pos (by omega), if_pos (by omega), t1, if_pos (by rw [z1]; omega), if_pos (by rw [ByteArray.size_append, z1]; omega)]
        unfold asset_Digest.f
        rw [if_pos (by omega), Option.bind_some, if_pos (by decide), if_pos (by omega), hdg, if_pos (by rw [ByteArray.size_append, ByteArray.size_append, z0, z1, hdgs]; omega), if_pos (by rw [ByteArray.size_append, ByteArray.size_append, ByteArray.size_append, z0, z1, z2, hdgs]; omega), hname, (check_path (h2 _ (by omega))).2, Option.bind_some]
        cases b2 <;> rfl
      by_cases c : x < 1
      · rw [if_pos c] at hxP ⊢; rw [hxP]; exact hj0
      · rw [if_neg c] at hxP ⊢; rw [hxP]; exact hj0
    refine ⟨K1 + K2 + path.size + l.size + name.size + 30, ?_⟩
    unfold mastkeep2_AssetRound.f mastkeep2_awakeAsset.f
    rw [Option.bind_some, if_pos rfl, hfp _ (by omega), Option.bind_some]
    cases b2 with
    | false =>
      show some ((⟨#[]⟩ : ByteArray).toList == ([] : List UInt8)) = some true
      rw [empty_tl]; rfl
    | true =>
      rw [if_pos rfl]
      dsimp only
      rw [if_pos rfl, hpl2 _ (by omega), Option.bind_some]
      dsimp only
      rw [if_pos rfl, if_pos rfl, if_pos (by omega)]
      unfold asset_Digest.f
      rw [if_pos (by omega), Option.bind_some, has_prefix (by omega) (by rw [hdgl, hdgs]), Option.bind_some, if_pos rfl, (check_path (h2 _ (by omega))).1, Option.bind_some]
      rfl
end Go.Proofs.YthagabjcoknogaaDoor.Pure
