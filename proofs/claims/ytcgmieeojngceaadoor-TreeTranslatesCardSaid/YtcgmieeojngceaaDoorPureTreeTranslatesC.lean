/- For TreeTranslates: CheckSite comes to an answer, part two. -/
import Derived.Test.YtcgmieeojngceaaDoorPureTreeTranslatesB
namespace Go.Proofs.YtcgmieeojngceaaDoor.Pure
open Go.RowKit Go.Proofs.YtcgmieeojngceaaDoor.PTreeTranslates Go.Proofs.YtcgmieeojngceaaDoorW.PrintWords Go.Proofs.YtcgmieeojngceaaDoorW.PrintLast Go.Proofs.YtcgmieeojngceaaDoorW.PrintMore
set_option linter.unusedVariables false
set_option linter.unusedSimpArgs false
/-! ### The translation key -/
theorem find_at (l : List ByteArray) : ∀ n j i, tr_find l n j = some i → j ≤ i ∧ i < j + n
  | 0, _, _, h => by cases h
  | n + 1, j, i, h => by
    rw [tr_find] at h
    split at h
    · cases h; omega
    · have := find_at l n (j + 1) i h; omega
def tkey (x : S39) : Option ByteArray := tree_translation.f 0 x.f5.f0 x.f5.f1 x.f5.f2 x.f5.f3 x.f5.f4 x.f5.f5 x.f1
/-- the translation key -/
def trv (x : S39) : ByteArray := (tkey x).getD ⟨#[]⟩
theorem tkey_at (x : S39) (k : Nat) : tree_translation.f k x.f5.f0 x.f5.f1 x.f5.f2 x.f5.f3 x.f5.f4 x.f5.f5 x.f1 = tkey x := rfl
theorem tkey_some {n : Nat} {x : S39} (hx : Fits n x.f5) (h1 : x.f1.size ≤ 140737488351232) (hlen : x.f5.f0 = 6 → x.f5.f5.length = x.f5.f4.length) : ∃ t, tkey x = some t ∧ t.size ≤ 140737488351232 := by
  obtain ⟨n, rfl⟩ : ∃ m, n = m + 1 := by
    cases n with
    | zero => exact hx.elim
    | succ m => exact ⟨m, rfl⟩
  unfold tkey tree_translation.f tr_set
  rw [if_pos (by have := hx.2.2.1; omega)]
  by_cases h6 : x.f5.f0 = 6
  · rw [if_pos h6]
    cases hf : tr_find x.f5.f5 x.f5.f5.length 0 with
    | none => exact ⟨x.f1, rfl, h1⟩
    | some i =>
      have hi := find_at _ _ _ _ hf
      have hl := hlen h6
      dsimp only
      rw [if_pos (by omega), Option.bind_some]
      have hm := rd37_mem (l := x.f5.f4) (i := i) (by omega)
      have hfit := hx.2.2.2.2 _ hm
      have hs : (rd_T37 x.f5.f4 (i : Int)).f3.size ≤ 140737488351232 := by
        cases n with
        | zero => exact hfit.elim
        | succ m => exact hfit.1
      by_cases hb : ((rd_T37 x.f5.f4 (i : Int)).f0 == 3) = true
      · exact ⟨_, if_pos hb, hs⟩
      · exact ⟨_, if_neg hb, h1⟩
  · rw [if_neg h6]
    exact ⟨x.f1, rfl, h1⟩
/-! ### Cuts, prefixes, files -/
theorem last_loop (s : ByteArray) (c : Int) (hs : s.size ≤ 4611686018427387904) : ∀ d : Nat, d ≤ s.size → Tt (fun k => bytealg_LastIndexByteString.l0 k s c ((d : Int) - 1)) (fun r => -1 ≤ r ∧ r < s.size)
  | 0, h => Tt.step (f := fun _ => some (-1)) (fun k => by rw [bytealg_LastIndexByteString.l0, if_neg (by omega)]) (Tt.some ⟨by omega, by omega⟩)
  | d + 1, h => by
    have ih := last_loop s c hs d (by omega)
    have e : (((d + 1 : Nat) : Int) - 1) = (d : Int) := by omega
    rw [e]
    have ew : wrap64 ((d : Int) - 1) = (d : Int) - 1 := w64 (by omega) (by omega)
    rw [← ew] at ih
    refine Tt.step (fun k => by rw [bytealg_LastIndexByteString.l0]) ?_
    refine Tt.ite (fun _ => Tt.ite (fun _ => Tt.ite (fun _ => Tt.ite (fun _ => Tt.some ⟨by omega, by omega⟩) (fun _ => ih)) (fun h => ?_)) (fun h => ?_)) (fun h => ?_)
    all_goals (exfalso; omega)
theorem cut_tt (s : ByteArray) (hs : s.size ≤ 4611686018427387904) : Tt (fun k => tree_cutLast.f k s) (fun d => d.1.size ≤ s.size) := by
  unfold tree_cutLast.f strings_LastIndexByte.f bytealg_LastIndexByteString.f
  rw [w64 (n := (s.size : Int) - 1) (by omega) (by omega)]
  refine Tt.bind (Tt.bind (last_loop s 47 hs s.size (Nat.le_refl _)) (fun r _ hr => Tt.some hr)) (fun r _ hr => ?_)
  have ew : wrap64 (r + 1) = r + 1 := w64 (by omega) (by omega)
  rw [ew]
  refine Tt.ite (fun _ => Tt.some (Nat.zero_le _)) (fun _ => Tt.ite (fun _ => Tt.ite (fun _ => Tt.ite (fun _ => Tt.ite (fun _ => Tt.some ?_) (fun h => ?_)) (fun h => ?_)) (fun h => ?_)) (fun h => ?_))
  · simp only [ByteArray.size_extract]; omega
  all_goals (exfalso; omega)
theorem prefix_tt (a b : ByteArray) : Tt (fun _ => strings_HasPrefix.f a b) (fun _ => True) := by
  unfold strings_HasPrefix.f stringslite_HasPrefix.f
  refine Tt.bind (Q := fun _ => True) (g := fun _ => _) ?_ (fun _ _ _ => Tt.some trivial)
  repeat' first
    | exact Tt.some trivial
    | refine Tt.ite (fun _ => ?_) (fun _ => ?_)
    | (exfalso; omega)
theorem more_tt (a b : ByteArray) : Tt (fun _ => tree_oneMore.f a b) (fun _ => True) := by
  unfold tree_oneMore.f
  have hc : ∀ s, Tt (fun _ => strings_Count.f s (⟨#[47]⟩ : ByteArray)) (fun _ => True) := fun s => by
    unfold strings_Count.f
    exact Tt.ite (fun _ => Tt.some trivial) (fun h => absurd rfl h)
  repeat' first
    | exact Tt.some trivial
    | refine Tt.bind (prefix_tt _ _) (fun _ _ _ => ?_)
    | refine Tt.bind (hc _) (fun _ _ _ => ?_)
    | refine Tt.ite (fun _ => ?_) (fun _ => ?_)
    | (exfalso; omega)
theorem files_loop (l : List ByteArray) (hl : l.length ≤ 140737488351232) (a0 a1 a2 a3 : ByteArray) (a4 a5 : Int) (a6 : Bool) (a7 : Int) (a8 : ByteArray) (l9 : List S37) (l10 : List ByteArray) (a11 : ByteArray) (h1 : a1.size ≤ 140737488351232) :
    ∀ d i : Nat, i + d = l.length → Tt (fun k => tree_filesFault.l0 k l (l.length : Int) (i : Int) a0 a1 a2 a3 a4 a5 a6 a7 a8 l9 l10 a11 l) (fun _ => True)
  | 0, i, h => Tt.step (f := fun _ => some 0) (fun k => by rw [tree_filesFault.l0, if_neg (by omega)]) (Tt.some trivial)
  | d + 1, i, h => by
    have ih := files_loop l hl a0 a1 a2 a3 a4 a5 a6 a7 a8 l9 l10 a11 h1 d (i + 1) (by omega)
    rw [← w1 (show i < l.length by omega) (by omega)] at ih
    have j1 : ∀ s b, Tt (fun k => tree_filesFault.j1 k (i : Int) s l (l.length : Int) (i : Int) b a0 a1 a2 a3 a4 a5 a6 a7 a8 l9 l10 a11 l) (fun _ => True) := fun s b => by
      refine Tt.step (fun k => by rw [tree_filesFault.j1]) ?_
      by_cases hi : 0 < i
      · rw [w2 hi (by omega)]
        repeat' first
          | exact ih
          | exact Tt.some trivial
          | refine Tt.ite (fun _ => ?_) (fun _ => ?_)
          | (exfalso; omega)
      · exact Tt.ite (fun _ => Tt.some trivial) (fun _ => Tt.ite (fun h => absurd h (by omega)) (fun _ => ih))
    refine Tt.step (fun k => by rw [tree_filesFault.l0]) ?_
    refine Tt.ite (fun _ => Tt.ite (fun _ => Tt.ite (fun _ => Tt.ite (fun _ => Tt.bind (path_tt _) (fun _ _ _ => Tt.ite (fun _ => Tt.ite (fun _ => Tt.bind (prefix_tt _ _) (fun _ _ _ => j1 _ _)) (fun h => ?_)) (fun _ => j1 _ _))) (fun _ => Tt.some trivial)) (fun h => ?_)) (fun h => ?_)) (fun _ => Tt.some trivial)
    all_goals (exfalso; omega)
theorem files_tt (x : S39) (h7 : x.f7.length ≤ 140737488351232) (h1 : x.f1.size ≤ 140737488351232) : Tt (fun k => pg_files k x) (fun _ => True) := by
  unfold pg_files tree_filesFault.f
  exact files_loop x.f7 h7 _ _ _ _ _ _ _ _ _ _ _ _ h1 x.f7.length 0 (by omega)
/-! ### A page -/
structure Wp (x : S39) : Prop where
  h1 : x.f1.size ≤ 140737488351232
  h2 : x.f2.size ≤ 140737488351232
  h3 : x.f3.size ≤ 140737488351232
  h5 : ∃ n, Fits n x.f5
  h7 : x.f7.length ≤ 140737488351232
theorem ml {n : Nat} (h : n ≤ 140737488351232) : n ≤ maxLen := Nat.le_trans h (by decide)
theorem rd39_mem {l : List S39} {i : Nat} (h : i < l.length) : rd_T39 l (i : Int) ∈ l := by
  unfold rd_T39
  rw [Int.toNat_natCast, List.getD_eq_getElem?_getD, List.getElem?_eq_getElem h]
  exact List.getElem_mem h
theorem sec_val (l1 : List S39) : ∀ n key q, Mp.look (sec l1 n) key = some q → 0 ≤ q ∧ q < n
  | 0, key, q, h => by cases h
  | n + 1, key, q, h => by
    rw [sec] at h
    split at h
    · split at h
      · have := sec_val l1 n key q h; omega
      · rw [Mp.look] at h
        split at h
        · cases h; omega
        · have := sec_val l1 n key q h; omega
    · have := sec_val l1 n key q h; omega
theorem tail_tt (l1 : List S39) (x : S39) (hx : Wp x) : Tt (fun k => pg_tail k l1 (sec l1 l1.length) x) (fun _ => True) := by
  have hf := files_tt x hx.h7 hx.h1
  unfold pg_tail
  refine Tt.ite (fun _ => hf) (fun _ => Tt.bind (cut_tt x.f1 (by have := hx.h1; omega)) (fun d _ hd => Tt.ite (fun _ => ?_) (fun h => absurd (ml (Nat.le_trans hd hx.h1)) h)))
  cases hq : Mp.look (sec l1 l1.length) (x.f2, d.1) with
  | none => exact Tt.some trivial
  | some q =>
    have hb := sec_val l1 _ _ _ hq
    exact Tt.ite (fun _ => Tt.bind (more_tt _ _) (fun _ _ _ => Tt.ite (fun _ => hf) (fun _ => Tt.some trivial))) (fun h => absurd hb h)
theorem mid_tt (l1 : List S39) (ad : PgA) (ks : PgK) (x : S39) (hx : Wp x) (hlen : x.f5.f0 = 6 → x.f5.f5.length = x.f5.f4.length) : Tt (fun k => pg_mid k l1 (sec l1 l1.length) ad ks x) (fun _ => True) := by
  unfold pg_mid
  obtain ⟨n, hn⟩ := hx.h5
  obtain ⟨t, ht, hts⟩ := tkey_some hn hx.h1 hlen
  refine Tt.bind (Q := fun r => r = t) (g := fun k => tree_translation.f k x.f5.f0 x.f5.f1 x.f5.f2 x.f5.f3 x.f5.f4 x.f5.f5 x.f1) ⟨t, Ev.congr (fun k => ht) (Ev.now t), rfl⟩ ?_
  rintro r _ rfl
  exact Tt.ite (fun _ => Tt.ite (fun _ => Tt.some trivial) (fun _ => Tt.ite (fun _ => Tt.some trivial) (fun _ => Tt.bind (tail_tt l1 x hx) (fun _ _ _ => Tt.some trivial)))) (fun h => absurd (ml hts) h)
theorem pg_tt (l0 : List ByteArray) (l1 : List S39) (ad : PgA) (ks : PgK) (i : Nat) (h0 : 0 < l0.length) (h8 : l0.length ≤ 8) (hall : ∀ x ∈ l1, Wp x) (hi : i < l1.length) : Tt (fun k => pg k l0 l1 (sec l1 l1.length) ad ks i) (fun _ => True) := by
  have hx := hall _ (rd39_mem hi)
  unfold pg
  generalize rd_T39 l1 (i : Int) = x at *
  have hpos : ∀ s, Tt (fun k => tree_position.f k l0 s) (fun _ => True) := fun s => pos_tt l0 s (by omega)
  have hc : Tt (fun k => pg_c k l1 (sec l1 l1.length) ad ks x) (fun _ => True) := by
    unfold pg_c
    obtain ⟨n, hn⟩ := hx.h5
    refine Tt.bind (check_tt n x.f5 hn) (fun e he _ => Tt.ite (fun h => ?_) (fun _ => Tt.some trivial))
    subst h
    obtain ⟨K, hK⟩ := he
    exact mid_tt l1 ad ks x hx (check_len (hK K (Nat.le_refl _)))
  have ha3 : ∀ b, Tt (fun k => pg_a3 k l1 (sec l1 l1.length) ad ks x b) (fun _ => True) := fun b => by
    unfold pg_a3
    exact Tt.ite (fun _ => Tt.some trivial) (fun _ => hc)
  have hb3 : ∀ n, Tt (fun k => pg_b3 k l0 l1 x i n) (fun _ => True) := fun n => by
    unfold pg_b3
    exact Tt.ite (fun _ => Tt.bind (hpos _) (fun _ _ _ => Tt.some trivial)) (fun _ => Tt.some trivial)
  have ha2 : ∀ n b, Tt (fun k => pg_a2 k l0 l1 (sec l1 l1.length) ad ks x i n b) (fun _ => True) := fun n b => by
    unfold pg_a2
    exact Tt.ite (fun _ => Tt.some trivial) (fun _ => Tt.bind (hb3 n) (fun _ _ _ => ha3 _))
  have hb2 : Tt (fun k => pg_b2 k l0 x) (fun _ => True) := by
    unfold pg_b2
    exact Tt.bind (addr_tt x.f3 (by have := hx.h3; omega)) (fun _ _ _ => Tt.ite (fun _ => Tt.ite (fun _ => Tt.bind (root_tt l0 x.f2 h0 (by have := hx.h2; omega)) (fun _ _ _ => Tt.some trivial)) (fun _ => Tt.some trivial)) (fun _ => Tt.some trivial))
  have ha1 : ∀ n b, Tt (fun k => pg_a1 k l0 l1 (sec l1 l1.length) ad ks x i n b) (fun _ => True) := fun n b => by
    unfold pg_a1
    exact Tt.ite (fun _ => Tt.some trivial) (fun _ => Tt.bind hb2 (fun _ _ _ => ha2 _ _))
  have hb1 : Tt (fun k => pg_b1 k x) (fun _ => True) := by
    unfold pg_b1
    exact Tt.ite (fun _ => Tt.some trivial) (fun _ => Tt.bind (path_tt _) (fun _ _ _ => Tt.some trivial))
  exact Tt.ite (fun _ => Tt.bind (hpos _) (fun n _ _ => Tt.ite (fun _ => Tt.some trivial) (fun _ => Tt.bind hb1 (fun _ _ _ => ha1 _ _)))) (fun h => absurd ⟨ml hx.h1, ml hx.h2, ml hx.h3⟩ h)
theorem go_tt (l0 : List ByteArray) (l1 : List S39) (h0 : 0 < l0.length) (h8 : l0.length ≤ 8) (hall : ∀ x ∈ l1, Wp x) : ∀ (n i : Nat) (ad : PgA) (ks : PgK), i + n = l1.length → Tt (fun k => cs_go k l0 l1 (sec l1 l1.length) n i ad ks) (fun _ => True)
  | 0, i, ad, ks, h => Tt.some trivial
  | n + 1, i, ad, ks, h => by
    unfold cs_go
    exact Tt.bind (pg_tt l0 l1 ad ks i h0 h8 hall (by omega)) (fun r _ _ => Tt.ite (fun _ => go_tt l0 l1 h0 h8 hall n (i + 1) _ _ (by omega)) (fun _ => Tt.some trivial))
theorem cs_tt (l0 : List ByteArray) (l1 : List S39) (hall : ∀ x ∈ l1, Wp x) : Tt (fun k => tree_CheckSite.f k l0 l1) (fun r => r = 0 → 0 < l0.length ∧ l0.length ≤ 8 ∧ l1.length ≤ 1500 ∧ Ev (fun k => cs_go k l0 l1 (sec l1 l1.length) l1.length 0 [] []) 0) := by
  unfold tree_CheckSite.f cs_tail
  refine Tt.bind (lf_tt l0) (fun b _ hb => Tt.ite (fun hbt => ?_) (fun _ => Tt.some (fun h => by cases h)))
  obtain ⟨h0, h8⟩ := hb hbt
  refine Tt.ite (fun _ => Tt.some (fun h => by cases h)) (fun hn => Tt.ite (fun _ => Tt.ite (fun _ => ?_) (fun _ => Tt.some (fun h => by cases h))) (fun h => absurd ⟨h0, fun j hj => ?_⟩ h))
  · obtain ⟨r, hr, _⟩ := go_tt l0 l1 h0 h8 hall l1.length 0 [] [] (by omega)
    exact ⟨r, hr, fun e => ⟨h0, h8, by omega, e ▸ hr⟩⟩
  · have := hall _ (rd39_mem hj)
    exact ⟨ml this.h1, ml this.h2⟩
end Go.Proofs.YtcgmieeojngceaaDoor.Pure
