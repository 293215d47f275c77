/- Each byte of a bundle is found in its part; what MapString writes ReadMap reads; for every list of files; no condition but the length's. -/
import Derived.Test.YthagabjcoknogaaDoorPAssetJoinedx8
import Derived.Test.YthagabjcoknogaaDoorPureAssetJoinedA
namespace Go.Proofs.YthagabjcoknogaaDoor.Pure
open Go.RowKit Go.Proofs.YthagabjcoknogaaDoor.PAssetJoined Go.Proofs.YthagabjcoknogaaDoorW.PrintWords Go.Proofs.YthagabjcoknogaaDoorW.PrintLast Go.Proofs.YthagabjcoknogaaDoorW.PrintMore
set_option linter.unusedVariables false
set_option linter.unusedSimpArgs false
/-! The bundle's text, its ends, its paths. -/
theorem at_list {l : List S41} {i : Nat} (h : i < l.length) : rd_T41 l (i : Int) = l[i] := by
  unfold rd_T41
  rw [Int.toNat_natCast, List.getD_eq_getElem?_getD, List.getElem?_eq_getElem h, Option.getD_some]
theorem tx_succ {l : List S41} {i : Nat} (h : i < l.length) : bd_text l (i + 1) = bd_text l i ++ bd_piece l[i] := by rw [bd_text_succ h, at_list h]
theorem tx_mono {l : List S41} : ∀ {i j : Nat}, i ≤ j → j ≤ l.length → (bd_text l i).length ≤ (bd_text l j).length := by
  intro i j hij hj
  induction j with
  | zero => rw [show i = 0 by omega]; exact Nat.le_refl _
  | succ j ih =>
    by_cases h : i = j + 1
    · rw [h]; exact Nat.le_refl _
    · have := ih (by omega) (by omega)
      rw [tx_succ (by omega), List.length_append]; omega
theorem tx_pre {l : List S41} {i : Nat} (h : i ≤ l.length) : ∃ R, bd_text l l.length = bd_text l i ++ R := by
  refine ⟨(l.drop i).flatMap bd_piece, ?_⟩
  unfold bd_text
  rw [List.take_length, ← List.flatMap_append, List.take_append_drop]
theorem end_at {l : List S41} {i : Nat} (h : i < l.length) : rd (bd_ends l l.length) (i : Int) = ((bd_text l (i + 1)).length : Int) := by
  unfold rd bd_ends
  rw [Int.toNat_natCast, List.getD_eq_getElem?_getD, List.getElem?_map, List.getElem?_range h]; rfl
theorem path_at {l : List S41} {i : Nat} (h : i < l.length) : rdOf ByteArray.empty (bd_paths l l.length) (i : Int) = l[i].f0 := by
  unfold rdOf bd_paths
  rw [Int.toNat_natCast, List.take_length, List.getD_eq_getElem?_getD, List.getElem?_map, List.getElem?_eq_getElem h]; rfl
theorem paths_len (l : List S41) : (bd_paths l l.length).length = l.length := bd_paths_len (Nat.le_refl _)
theorem ends_len (l : List S41) : (bd_ends l l.length).length = l.length := bd_ends_len _ _
/-- what is known of a bundle -/
structure Bun (l : List S41) (B : ByteArray) : Prop where
  n : l.length ≤ 40
  t : (bd_text l l.length).length ≤ 200000
  B : lst B = bd_text l l.length
theorem Bun.sz {l : List S41} {B : ByteArray} (h : Bun l B) : B.size = (bd_text l l.length).length := by rw [← lst_len, h.B]
theorem Bun.tx {l : List S41} {B : ByteArray} (h : Bun l B) {i : Nat} (hi : i ≤ l.length) : (bd_text l i).length ≤ 200000 := Nat.le_trans (tx_mono hi (Nat.le_refl _)) h.t
theorem bf_loop {l : List S41} {B : ByteArray} (h : Bun l B) : ∀ d i : Nat, i + d = l.length → ∀ k, d + 1 ≤ k → asset_bundleFault.l0 k ((bd_text l i).length : Int) (bd_ends l l.length) ((bd_ends l l.length).length : Int) (i : Int) B (bd_paths l l.length) (bd_ends l l.length) = some 0 := by
  have hn := h.n
  have hl := ends_len l
  intro d
  induction d with
  | zero =>
    intro i hi k hk
    obtain ⟨k, rfl⟩ : ∃ j, k = j + 1 := ⟨k - 1, by omega⟩
    rw [asset_bundleFault.l0, if_neg (by omega), if_pos (by rw [h.sz, show i = l.length by omega])]
  | succ d ih =>
    intro i hi k hk
    obtain ⟨k, rfl⟩ : ∃ j, k = j + 1 := ⟨k - 1, by omega⟩
    have hm := tx_mono (l := l) (i := i) (j := i + 1) (by omega) (by omega)
    have hw : Aside0 (wrap64 ((i : Int) + 1) = ((i + 1 : Nat) : Int)) := ⟨by rw [w64 (by omega) (by omega)]; omega⟩
    rw [asset_bundleFault.l0, if_pos (by omega), if_pos (by omega), if_pos (by omega), end_at (by omega), if_neg (by omega), hw.out]
    exact ih (i + 1) (by omega) k (by omega)
theorem bf_ev {l : List S41} {B : ByteArray} (h : Bun l B) : ∀ k, l.length + 2 ≤ k → asset_bundleFault.f k B (bd_paths l l.length) (bd_ends l l.length) = some 0 := by
  intro k hk
  obtain ⟨k, rfl⟩ : ∃ j, k = j + 1 := ⟨k - 1, by omega⟩
  have hn := h.n
  have ht := h.t
  have hs := h.sz
  unfold asset_bundleFault.f
  rw [if_neg (by omega), paths_len, ends_len, if_pos rfl, decide_eq_false (by omega), asset_bundleFault.j0, if_neg (by simp)]
  have := bf_loop h l.length 0 (by omega) k (by omega)
  exact this
theorem loc_ex {l : List S41} (a : Nat) : ∀ n, n ≤ l.length → a < (bd_text l n).length → ∃ t, t < n ∧ (bd_text l t).length ≤ a ∧ a < (bd_text l (t + 1)).length
  | 0, _, h => by simp [bd_text] at h
  | n + 1, hn, h => by
    by_cases hc : a < (bd_text l n).length
    · obtain ⟨t, h1, h2, h3⟩ := loc_ex a n (by omega) hc
      exact ⟨t, by omega, h2, h3⟩
    · exact ⟨n, by omega, by omega, h⟩
theorem loc_loop {l : List S41} {B : ByteArray} (h : Bun l B) (a t : Nat) (ht : t < l.length) (h1 : (bd_text l t).length ≤ a) (h2 : a < (bd_text l (t + 1)).length) : ∀ d i : Nat, i + d = t → ∀ k, d + 1 ≤ k → asset_Locate.l0 k (a : Int) (i : Int) ((bd_text l i).length : Int) B (bd_paths l l.length) (bd_ends l l.length) = some ((t : Int), ((a - (bd_text l t).length : Nat) : Int), 0) := by
  have hn := h.n
  have hl := ends_len l
  have hb := h.tx (i := t + 1) (by omega)
  intro d
  induction d with
  | zero =>
    intro i hi k hk
    obtain ⟨k, rfl⟩ : ∃ j, k = j + 1 := ⟨k - 1, by omega⟩
    obtain rfl : i = t := by omega
    have hw : Aside0 (wrap64 ((a : Int) - ((bd_text l i).length : Int)) = ((a - (bd_text l i).length : Nat) : Int)) := ⟨by rw [w64 (by omega) (by omega)]; omega⟩
    rw [asset_Locate.l0, if_pos (by omega), if_pos (by omega), end_at ht, if_neg (by omega), hw.out]
  | succ d ih =>
    intro i hi k hk
    obtain ⟨k, rfl⟩ : ∃ j, k = j + 1 := ⟨k - 1, by omega⟩
    have hm := tx_mono (l := l) (i := i + 1) (j := t) (by omega) (by omega)
    have hw : Aside0 (wrap64 ((i : Int) + 1) = ((i + 1 : Nat) : Int)) := ⟨by rw [w64 (by omega) (by omega)]; omega⟩
    rw [asset_Locate.l0, if_pos (by omega), if_pos (by omega), end_at (by omega), if_pos (by omega), hw.out]
    exact ih (i + 1) (by omega) k (by omega)
theorem loc_ev {l : List S41} {B : ByteArray} (h : Bun l B) (a : Nat) (ha : a < B.size) : ∃ t, ∃ ht : t < l.length, ∃ f, a = (bd_text l t).length + f ∧ f < (bd_piece l[t]).length ∧ ∀ k, l.length + 3 ≤ k → asset_Locate.f k B (bd_paths l l.length) (bd_ends l l.length) (a : Int) = some ((t : Int), (f : Int), 0) := by
  have hs := h.sz
  obtain ⟨t, ht, h1, h2⟩ := loc_ex a l.length (Nat.le_refl _) (by omega)
  refine ⟨t, ht, a - (bd_text l t).length, by omega, ?_, fun k hk => ?_⟩
  · rw [tx_succ ht, List.length_append] at h2; omega
  · obtain ⟨k, rfl⟩ : ∃ j, k = j + 1 := ⟨k - 1, by omega⟩
    unfold asset_Locate.f
    rw [bf_ev h (k + 1) (by omega), Option.bind_some, if_pos rfl, if_neg (by omega), decide_eq_false (by omega), asset_Locate.j0, if_neg (by simp)]
    exact loc_loop h a t ht h1 h2 t 0 (by omega) k (by omega)
/-! The map: written and read. -/
noncomputable def b32s (n : Nat) : ByteArray := if h : n ≤ 400000 then (base_ev n h).choose else ⟨#[]⟩
theorem b32s_spec (n : Nat) (h : n ≤ 400000) : (∀ k, 5 ≤ k → asset_base32.f k (n : Int) = some (b32s n)) ∧ (∀ c ∈ lst (b32s n), Dg c) ∧ val 0 (lst (b32s n)) = n ∧ (lst (b32s n)).length ≤ 4 ∧ ∃ c Q, lst (b32s n) = c :: Q ∧ (c = 48 → Q = []) := by
  unfold b32s
  rw [dif_pos h]
  exact (base_ev n h).choose_spec
noncomputable def ln (x : S41) : List UInt8 := lst x.f0 ++ 32 :: (lst (b32s (bd_piece x).length) ++ [10])
noncomputable def mp (l : List S41) (i : Nat) : List UInt8 := (l.take i).flatMap ln
theorem mp_succ {l : List S41} {i : Nat} (h : i < l.length) : mp l (i + 1) = mp l i ++ ln l[i] := by
  unfold mp; rw [List.take_succ_eq_append_getElem h, List.flatMap_append, List.flatMap_singleton]
theorem ln_len {x : S41} (h : x.f0.size ≤ 200) (hp : (bd_piece x).length ≤ 200000) : (ln x).length ≤ 206 := by
  have h1 := (b32s_spec (bd_piece x).length (by omega)).2.2.2.1
  have h2 := lst_len x.f0
  unfold ln
  rw [List.length_append, List.length_cons, List.length_append, List.length_singleton]; omega
theorem mp_len {l : List S41} (h : ∀ x ∈ l, x.f0.size ≤ 200 ∧ (bd_piece x).length ≤ 200000) : ∀ i, i ≤ l.length → (mp l i).length ≤ 206 * i
  | 0, _ => by simp [mp]
  | i + 1, hi => by
    have hx := h l[i] (List.getElem_mem (by omega))
    rw [mp_succ (by omega), List.length_append]
    have := mp_len h i (by omega)
    have := ln_len hx.1 hx.2
    omega
theorem Bun.pc {l : List S41} {B : ByteArray} (h : Bun l B) : ∀ x ∈ l, (bd_piece x).length ≤ 200000 := by
  intro x hx
  obtain ⟨i, hi, rfl⟩ := List.mem_iff_getElem.1 hx
  have := h.tx (i := i + 1) (by omega)
  rw [tx_succ hi, List.length_append] at this; omega
theorem ms_loop {l : List S41} {B : ByteArray} (h : Bun l B) (hg : ∀ x ∈ l, Good x.f0) : ∀ d i : Nat, i + d = l.length → ∀ s : ByteArray, lst s = mp l i → ∃ r : ByteArray, lst r = mp l l.length ∧ ∀ k, d + 6 ≤ k → asset_MapString.l0 k s ((bd_text l i).length : Int) (bd_paths l l.length) ((bd_paths l l.length).length : Int) (i : Int) B (bd_paths l l.length) (bd_ends l l.length) = some (r, 0) := by
  have hn := h.n
  have hpl := paths_len l
  have hel := ends_len l
  intro d
  induction d with
  | zero =>
    intro i hi s hs
    refine ⟨s, by rw [hs, show i = l.length by omega], fun k hk => ?_⟩
    obtain ⟨k, rfl⟩ : ∃ j, k = j + 1 := ⟨k - 1, by omega⟩
    rw [asset_MapString.l0, if_neg (by omega)]
  | succ d ih =>
    intro i hi s hs
    have hlt : i < l.length := by omega
    have hx := hg _ (List.getElem_mem hlt)
    have hpc := h.pc _ (List.getElem_mem hlt)
    obtain ⟨b1, b2, b3, b4, b5⟩ := b32s_spec (bd_piece l[i]).length (by omega)
    have hml := mp_len (l := l) (fun x hx => ⟨(hg x hx).1, h.pc x hx⟩) i (by omega)
    have hss := lst_len s
    rw [hs] at hss
    have hts : (b32s (bd_piece l[i]).length).size ≤ 4 := by rw [← lst_len]; exact b4
    have hp0 := hx.1
    have e1 : (⟨#[32]⟩ : ByteArray).size = 1 := rfl
    have e2 : (⟨#[10]⟩ : ByteArray).size = 1 := rfl
    obtain ⟨r, h1, h2⟩ := ih (i + 1) (by omega) (s ++ (((l[i].f0 ++ (⟨#[32]⟩ : ByteArray)) ++ b32s (bd_piece l[i]).length) ++ (⟨#[10]⟩ : ByteArray))) (by
      rw [mp_succ hlt, lst_app, lst_app, lst_app, lst_app, hs]; unfold ln
      rw [show lst (⟨#[32]⟩ : ByteArray) = [32] from rfl, show lst (⟨#[10]⟩ : ByteArray) = [10] from rfl]; simp)
    refine ⟨r, h1, fun k hk => ?_⟩
    obtain ⟨k, rfl⟩ : ∃ j, k = j + 1 := ⟨k - 1, by omega⟩
    have htx := tx_succ hlt
    have htl : (bd_text l (i + 1)).length = (bd_text l i).length + (bd_piece l[i]).length := by rw [htx, List.length_append]
    have hb := h.tx (i := i + 1) (by omega)
    have hw : Aside0 (wrap64 ((i : Int) + 1) = ((i + 1 : Nat) : Int)) := ⟨by rw [w64 (by omega) (by omega)]; omega⟩
    have hw2 : Aside0 (wrap64 (((bd_text l (i + 1)).length : Int) - ((bd_text l i).length : Int)) = (((bd_piece l[i]).length : Nat) : Int)) := ⟨by rw [w64 (by omega) (by omega)]; omega⟩
    rw [asset_MapString.l0, if_pos (by omega), if_pos (by omega), if_pos (by omega), path_at hlt, if_pos (by omega), if_pos (by omega), end_at hlt, hw2.out, b1 k (by omega), Option.bind_some,
      if_pos (by rw [ByteArray.size_append, e1]; omega), if_pos (by rw [ByteArray.size_append, ByteArray.size_append, e1]; omega), if_pos (by rw [ByteArray.size_append, ByteArray.size_append, ByteArray.size_append, e1, e2]; omega), hw.out]
    exact h2 k (by omega)
theorem cut_ev {a : ByteArray} {c : UInt8} {X Y : List UInt8} (h : lst a = X ++ c :: Y) (hc : c ∉ X) (hs : a.size ≤ 1000000) : ∃ x y : ByteArray, strings_Cut.f a (⟨#[c]⟩ : ByteArray) = some (x, y, true) ∧ lst x = X ∧ lst y = Y := by
  refine ⟨a.extract 0 X.length, a.extract (X.length + 1) a.size, ?_, ?_, ?_⟩
  · unfold strings_Cut.f
    have hix : Lib.indexByte a.data.toList ((⟨#[c]⟩ : ByteArray).data.toList.headD 0) = (X.length : Int) := by
      show Lib.indexByte (lst a) c = _
      rw [h]; exact index_first hc
    rw [if_pos ⟨rfl, by omega⟩, hix, if_neg (by omega), Int.toNat_natCast]
  · rw [lst_front, h, List.take_left]
  · rw [lst_end, h, show X ++ c :: Y = (X ++ [c]) ++ Y by simp, List.drop_left' (by simp)]
theorem dm_len {l : List S41} (h : ∀ x ∈ l, x.f0.size ≤ 200 ∧ (bd_piece x).length ≤ 200000) : ∀ d i, i + d = l.length → ((l.drop i).flatMap ln).length ≤ 206 * d := by
  intro d
  induction d with
  | zero => intro i hi; rw [List.drop_eq_nil_of_le (by omega)]; simp
  | succ d ih =>
    intro i hi
    have hlt : i < l.length := by omega
    have hx := h _ (List.getElem_mem hlt)
    have h1 := ln_len hx.1 hx.2
    have h2 := ih (i + 1) (by omega)
    rw [List.drop_eq_getElem_cons hlt, List.flatMap_cons, List.length_append]; omega
theorem rm_loop {l : List S41} {B : ByteArray} (h : Bun l B) (hg : ∀ x ∈ l, Good x.f0) (K0 : Nat) (hpf : ∀ k, K0 ≤ k → asset_partsFault.f k (bd_paths l l.length) = some 0) : ∀ d i : Nat, i + d = l.length → ∀ s : ByteArray, lst s = (l.drop i).flatMap ln → ∀ k, K0 + d + 10 ≤ k → asset_ReadMap.l k s ((bd_text l i).length : Int) (bd_paths l i) (bd_ends l i) = some ((⟨#[]⟩ : ByteArray), bd_paths l l.length, bd_ends l l.length, 0) := by
  have hn := h.n
  have ht := h.t
  intro d
  induction d with
  | zero =>
    intro i hi s hs k hk
    obtain ⟨k, rfl⟩ : ∃ j, k = j + 1 := ⟨k - 1, by omega⟩
    obtain rfl : i = l.length := by omega
    rw [List.drop_eq_nil_of_le (Nat.le_refl _)] at hs
    have hpl := paths_len l
    rw [asset_ReadMap.l, if_pos (by rw [lst_tl, hs]; rfl)]
    unfold rm_end
    rw [if_neg (by omega), if_neg (by omega), hpf k (by omega), Option.bind_some, if_pos rfl]
  | succ d ih =>
    intro i hi s hs k hk
    obtain ⟨k, rfl⟩ : ∃ j, k = j + 1 := ⟨k - 1, by omega⟩
    have hlt : i < l.length := by omega
    obtain ⟨g1, g2, g3⟩ := hg _ (List.getElem_mem hlt)
    have hpc := h.pc _ (List.getElem_mem hlt)
    have hdm := dm_len (l := l) (fun x hx => ⟨(hg x hx).1, h.pc x hx⟩) (d + 1) i hi
    have hsz := lst_len s
    rw [hs] at hsz
    obtain ⟨b1, b2, b3, b4, b5⟩ := b32s_spec (bd_piece l[i]).length (by omega)
    have e1 : lst s = (lst l[i].f0 ++ 32 :: lst (b32s (bd_piece l[i]).length)) ++ 10 :: (l.drop (i + 1)).flatMap ln := by
      rw [hs, List.drop_eq_getElem_cons hlt, List.flatMap_cons]; unfold ln; simp
    have n10 : (10 : UInt8) ∉ lst l[i].f0 ++ 32 :: lst (b32s (bd_piece l[i]).length) := by
      intro hm
      rcases List.mem_append.1 hm with hm | hm
      · exact (g3 _ hm).2 rfl
      · rcases List.mem_cons.1 hm with hm | hm
        · cases hm
        · exact (b2 _ hm).2.2.2 rfl
    have n32 : (32 : UInt8) ∉ lst l[i].f0 := fun hm => (g3 _ hm).1 rfl
    obtain ⟨line, rest, c1, c2, c3⟩ := cut_ev e1 n10 (by omega)
    have hls : line.size ≤ 1000000 := by
      have := congrArg List.length e1
      rw [List.length_append, ← c2, lst_len, lst_len] at this; omega
    obtain ⟨path, size, d1, d2, d3⟩ := cut_ev c2 n32 hls
    obtain rfl := lst_inj d2
    obtain rfl := lst_inj d3
    have hr := read_ev (b32s (bd_piece l[i]).length) (bd_piece l[i]).length (by omega) b4 b2 b3 b5 k (by omega)
    have htx := tx_succ hlt
    have htl : (bd_text l (i + 1)).length = (bd_text l i).length + (bd_piece l[i]).length := by rw [htx, List.length_append]
    have hb := h.tx (i := i + 1) (by omega)
    have hmin : min (((bd_text l i).length : Int) + ((bd_piece l[i]).length : Int)) 400000 = ((bd_text l (i + 1)).length : Int) := by omega
    have hpl : (bd_paths l i).length = i := bd_paths_len (by omega)
    have hel : (bd_ends l i).length = i := bd_ends_len l i
    have hpp : bd_paths l (i + 1) = bd_paths l i ++ [l[i].f0] := by rw [bd_paths_succ hlt, at_list hlt]
    rw [asset_ReadMap.l, if_neg (by rw [lst_tl, e1]; simp), if_pos ⟨by omega, by omega, by omega, by omega, by omega⟩, c1, Option.bind_some]
    show ((strings_Cut.f line (⟨#[32]⟩ : ByteArray)).bind _) = _
    rw [d1, Option.bind_some]
    show ((asset_read32.f k (b32s (bd_piece l[i]).length)).bind _) = _
    rw [hr, Option.bind_some]
    rw [if_pos ⟨by show (0 : Int) ≤ ((bd_piece l[i]).length : Int); omega, by show ((bd_piece l[i]).length : Int) ≤ 400000; omega⟩, if_pos ⟨rfl, rfl, rfl, by rw [lst_tl]; exact g2⟩]
    show asset_ReadMap.l k rest (min (((bd_text l i).length : Int) + ((bd_piece l[i]).length : Int)) 400000) (bd_paths l i ++ [l[i].f0]) (bd_ends l i ++ [min (((bd_text l i).length : Int) + ((bd_piece l[i]).length : Int)) 400000]) = _
    rw [hmin, ← hpp, ← bd_ends_succ]
    exact ih (i + 1) (by omega) rest c3 k (by omega)
/-! The law. -/
theorem eqs_loop (l : List ByteArray) (hn : l.length ≤ 1000) : ∀ d i : Nat, i + d = l.length → ∀ k, d + 1 ≤ k → slices_Equal_string_string.l0 k l l (l.length : Int) (i : Int) = some true := by
  intro d
  induction d with
  | zero =>
    intro i hi k hk
    obtain ⟨k, rfl⟩ : ∃ j, k = j + 1 := ⟨k - 1, by omega⟩
    rw [slices_Equal_string_string.l0, if_neg (by omega)]
  | succ d ih =>
    intro i hi k hk
    obtain ⟨k, rfl⟩ : ∃ j, k = j + 1 := ⟨k - 1, by omega⟩
    have hw : Aside0 (wrap64 ((i : Int) + 1) = ((i + 1 : Nat) : Int)) := ⟨by rw [w64 (by omega) (by omega)]; omega⟩
    rw [slices_Equal_string_string.l0, if_pos (by omega), if_pos (by omega), if_pos (by omega), if_pos (by omega), if_pos rfl, hw.out]
    exact ih (i + 1) (by omega) k (by omega)
theorem eqi_loop (l : List Int) (hn : l.length ≤ 1000) : ∀ d i : Nat, i + d = l.length → ∀ k, d + 1 ≤ k → slices_Equal_int_int.l0 k l l (l.length : Int) (i : Int) = some true := by
  intro d
  induction d with
  | zero =>
    intro i hi k hk
    obtain ⟨k, rfl⟩ : ∃ j, k = j + 1 := ⟨k - 1, by omega⟩
    rw [slices_Equal_int_int.l0, if_neg (by omega)]
  | succ d ih =>
    intro i hi k hk
    obtain ⟨k, rfl⟩ : ∃ j, k = j + 1 := ⟨k - 1, by omega⟩
    have hw : Aside0 (wrap64 ((i : Int) + 1) = ((i + 1 : Nat) : Int)) := ⟨by rw [w64 (by omega) (by omega)]; omega⟩
    rw [slices_Equal_int_int.l0, if_pos (by omega), if_pos (by omega), if_pos (by omega), if_pos (by omega), if_pos rfl, hw.out]
    exact ih (i + 1) (by omega) k (by omega)
theorem bt_some {s : ByteArray} {i : Nat} {c : UInt8} (h : (lst s)[i]? = some c) : bt s (i : Int) = (c.toNat : Int) := by
  obtain ⟨hi, e⟩ := List.getElem?_eq_some_iff.1 h
  rw [bt_lst hi, e]
theorem at_B {l : List S41} {B : ByteArray} (h : Bun l B) {t f : Nat} (ht : t < l.length) (hf : f < (bd_piece l[t]).length) : (lst B)[(bd_text l t).length + f]? = (bd_piece l[t])[f]? := by
  obtain ⟨R, hR⟩ := tx_pre (l := l) (i := t + 1) (by omega)
  rw [h.B, hR, tx_succ ht, List.append_assoc, List.getElem?_append_right (by omega), Nat.add_sub_cancel_left, List.getElem?_append_left hf]
theorem law_end {l : List S41} {B : ByteArray} (h : Bun l B) (hg : ∀ x ∈ l, Good x.f0) (K0 : Nat) (hpf : ∀ k, K0 ≤ k → asset_partsFault.f k (bd_paths l l.length) = some 0) (a : Nat) (ha : B.size ≤ a) : ∀ k, K0 + 100 ≤ k → mastkeep2_AssetJoined.l0 k l (a : Int) B (bd_paths l l.length) (bd_ends l l.length) = some true := by
  intro k hk
  obtain ⟨k, rfl⟩ : ∃ j, k = j + 1 := ⟨k - 1, by omega⟩
  have hn := h.n
  have hpl := paths_len l
  have hel := ends_len l
  obtain ⟨r, r1, r2⟩ := ms_loop h hg l.length 0 (by omega) (⟨#[]⟩ : ByteArray) rfl
  have hms : asset_MapString.f k B (bd_paths l l.length) (bd_ends l l.length) = some (r, 0) := by
    unfold asset_MapString.f
    rw [bf_ev h k (by omega), Option.bind_some, if_pos rfl, hpf k (by omega), Option.bind_some, if_pos rfl]
    exact r2 k (by omega)
  have hml := mp_len (l := l) (fun x hx => ⟨(hg x hx).1, h.pc x hx⟩) l.length (Nat.le_refl _)
  have hrs := lst_len r
  rw [r1] at hrs
  have hrm : asset_ReadMap.f k r = some ((⟨#[]⟩ : ByteArray), bd_paths l l.length, bd_ends l l.length, 0) := by
    unfold asset_ReadMap.f
    rw [if_neg (by omega)]
    exact rm_loop h hg K0 hpf l.length 0 (by omega) r (by rw [r1]; unfold mp; rw [List.take_length, List.drop_zero]) k (by omega)
  have hs : slices_Equal_string_string.f k (bd_paths l l.length) (bd_paths l l.length) = some true := by
    unfold slices_Equal_string_string.f
    rw [if_pos rfl]
    exact eqs_loop _ (by omega) (bd_paths l l.length).length 0 (by omega) k (by omega)
  have hi : slices_Equal_int_int.f k (bd_ends l l.length) (bd_ends l l.length) = some true := by
    unfold slices_Equal_int_int.f
    rw [if_pos rfl]
    exact eqi_loop _ (by omega) (bd_ends l l.length).length 0 (by omega) k (by omega)
  rw [mastkeep2_AssetJoined.l0, if_neg (by omega), hms, Option.bind_some]
  show (if (0 : Int) = 0 then ((asset_ReadMap.f k r).bind _) else _) = _
  rw [if_pos rfl, hrm, Option.bind_some]
  show (if (0 : Int) = 0 then (if (⟨#[]⟩ : ByteArray).toList = ([] : List UInt8) then ((slices_Equal_string_string.f k (bd_paths l l.length) (bd_paths l l.length)).bind _) else _) else _) = _
  rw [if_pos rfl, if_pos empty_tl, hs, Option.bind_some, if_pos rfl]
  show ((slices_Equal_int_int.f k (bd_ends l l.length) (bd_ends l l.length)).bind _) = _
  rw [hi]; rfl
theorem law_loop {l : List S41} {B : ByteArray} (h : Bun l B) (hg : ∀ x ∈ l, Good x.f0) (K0 : Nat) (hpf : ∀ k, K0 ≤ k → asset_partsFault.f k (bd_paths l l.length) = some 0) : ∀ n a : Nat, B.size - a ≤ n → ∀ k, 2 * n + K0 + 200 ≤ k → mastkeep2_AssetJoined.l0 k l (a : Int) B (bd_paths l l.length) (bd_ends l l.length) = some true := by
  have hn := h.n
  have ht := h.t
  have hs := h.sz
  intro n
  induction n with
  | zero => exact fun a ha k hk => law_end h hg K0 hpf a (by omega) k (by omega)
  | succ n ih =>
    intro a ha k hk
    by_cases hlt : a < B.size
    · obtain ⟨k, rfl⟩ : ∃ j, k = j + 2 := ⟨k - 2, by omega⟩
      obtain ⟨t, htl, f, hf1, hf2, hloc⟩ := loc_ev h a hlt
      have hat := at_B h htl hf2
      rw [← hf1] at hat
      have hnext := ih (a + (1 + B.size / 300)) (by omega) k (by omega)
      have hpl := bd_piece_len l[t]
      have hw : Aside0 (wrap64 ((a : Int) + wrap64 (1 + wrap64 ((B.size : Int) / 300))) = ((a + (1 + B.size / 300) : Nat) : Int)) := ⟨by
        rw [w64 (n := (B.size : Int) / 300) (by omega) (by omega), w64 (n := 1 + (B.size : Int) / 300) (by omega) (by omega), w64 (by omega) (by omega)]; omega⟩
      have e : mastkeep2_AssetJoined.l0 (k + 2) l (a : Int) B (bd_paths l l.length) (bd_ends l l.length) = mastkeep2_AssetJoined.j1 (k + 1) l (a : Int) (t : Int) (f : Int) 0 false B (bd_paths l l.length) (bd_ends l l.length) := by
        rw [show k + 2 = (k + 1) + 1 from rfl, mastkeep2_AssetJoined.l0, if_pos (by omega), hloc (k + 1) (by omega), Option.bind_some]
        show (if (t : Int) < 0 then _ else _) = _
        rw [if_neg (by omega)]
        show (if (t : Int) ≥ (l.length : Int) then _ else _) = _
        rw [if_neg (by omega), decide_eq_false (show ¬ (f : Int) < 0 by omega)]
      have hsz : l[t].f1.size = (lst l[t].f1).length := (lst_len _).symm
      rw [e, mastkeep2_AssetJoined.j1, if_neg (by simp), if_pos (by omega), if_pos (by omega), if_pos rfl, at_list htl, hw.out]
      by_cases hc : f < l[t].f1.size
      · have hb : (bd_piece l[t])[f]? = (lst l[t].f1)[f]? := by
          unfold bd_piece
          rw [List.getElem?_append_left (by rw [← Lib.size_eq]; exact hc)]; rfl
        have hfl : f < (lst l[t].f1).length := by omega
        rw [hb, List.getElem?_eq_getElem hfl] at hat
        have hb1 := bt_some hat
        have hb2 := bt_lst hfl
        rw [if_pos (by omega), if_pos (by omega), if_pos (by omega), if_pos (by omega), if_pos (by rw [hb1, hb2]), if_neg (by omega)]
        exact hnext
      · have hfe : f = l[t].f1.size := by omega
        have hb : (bd_piece l[t])[f]? = some 10 := by
          have hlen : (bd_piece l[t]).length = l[t].f1.size + (if bd_nl l[t] then [10] else ([] : List UInt8)).length := by unfold bd_piece; rw [List.length_append, ← Lib.size_eq]
          cases hnl : bd_nl l[t] with
          | false => rw [hnl] at hlen; simp at hlen; omega
          | true =>
            rw [bd_piece_yes hnl, List.getElem?_append_right (by rw [← Lib.size_eq]; omega), hfe, Lib.size_eq, Nat.sub_self]; rfl
        rw [hb] at hat
        have hb1 := bt_some hat
        rw [if_neg (by omega), if_pos (by omega), if_pos (by omega), if_pos (by omega), if_pos (by omega), if_pos (by rw [hb1]; rfl)]
        exact hnext
    · exact law_end h hg K0 hpf a (by omega) k (by omega)
theorem AssetJoined (l : List S41) (hl : l.length ≤ 9223372036854775807) : ∃ k, mastkeep2_AssetJoined.f k l = some true := by
  have aw : mastkeep2_awakeAsset.f = some true := rfl
  have start : ∀ k (b : ByteArray) (ps : List ByteArray) (es : List Int) (e : Int), asset_Bundle.f k l = some (b, ps, es, e) → mastkeep2_AssetJoined.f k l = if e = 0 then mastkeep2_AssetJoined.l0 k l 0 b ps es else some (b.toList == ([] : List UInt8)) := by
    intro k b ps es e hb
    unfold mastkeep2_AssetJoined.f
    rw [aw, Option.bind_some, if_pos rfl, hb, Option.bind_some]
  have bad : ∀ k e, e ≠ 0 → asset_Bundle.f k l = some ((⟨#[]⟩ : ByteArray), [], [], e) → mastkeep2_AssetJoined.f k l = some true := by
    intro k e he hb
    rw [start k _ _ _ _ hb, if_neg he, empty_tl]; rfl
  by_cases hall : l.all (fun x => decide (x.f1.size ≤ 20000)) = true
  · by_cases h40 : 40 < l.length
    · exact ⟨0, bad 0 4 (by omega) (by unfold asset_Bundle.f; rw [if_pos hl, if_pos hall, if_pos h40])⟩
    · obtain ⟨e, K, he, hgood⟩ := pf_ev (bd_paths l l.length) (by rw [paths_len]; omega)
      by_cases h0 : e = 0
      · subst h0
        by_cases hbig : 200000 < (bd_text l l.length).length
        · exact ⟨K, bad K 4 (by omega) (by unfold asset_Bundle.f; rw [if_pos hl, if_pos hall, if_neg h40, he K (Nat.le_refl _), Option.bind_some, if_pos rfl, if_pos hbig])⟩
        · have hB : Bun l ⟨(bd_text l l.length).toArray⟩ := ⟨by omega, by omega, rfl⟩
          have hg : ∀ x ∈ l, Good x.f0 := fun x hx => hgood rfl x.f0 (by unfold bd_paths; rw [List.take_length]; exact List.mem_map_of_mem hx)
          refine ⟨2 * 200000 + K + 200, ?_⟩
          rw [start _ _ _ _ _ (by unfold asset_Bundle.f; rw [if_pos hl, if_pos hall, if_neg h40, he _ (by omega), Option.bind_some, if_pos rfl, if_neg hbig]), if_pos rfl]
          have hz := hB.sz
          exact law_loop hB hg K he 200000 0 (by omega) _ (Nat.le_refl _)
      · exact ⟨K, bad K e h0 (by unfold asset_Bundle.f; rw [if_pos hl, if_pos hall, if_neg h40, he K (Nat.le_refl _), Option.bind_some, if_neg h0])⟩
  · exact ⟨0, bad 0 4 (by omega) (by unfold asset_Bundle.f; rw [if_pos hl, if_neg hall])⟩
end Go.Proofs.YthagabjcoknogaaDoor.Pure
