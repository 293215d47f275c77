/- TreeTranslates, said of the plain functions: of a right site all pages' translations are there, contain the page, are the same for each of them, and no two are of one language; no condition but the sizes of the data. -/
import Derived.Test.YtcgmieeojngceaaDoorPureTreeTranslatesC
namespace Go.Proofs.YtcgmieeojngceaaDoor.Pure
open Go.RowKit Go.Proofs.YtcgmieeojngceaaDoor.PTreeTranslates Go.Proofs.YtcgmieeojngceaaDoorW.PrintWords Go.Proofs.YtcgmieeojngceaaDoorW.PrintLast Go.Proofs.YtcgmieeojngceaaDoorW.PrintMore
set_option linter.unusedVariables false
set_option linter.unusedSimpArgs false
/-! ### What a right site says -/
def pkey (x : S39) : ByteArray × ByteArray × ByteArray := (tr_key, x.f2, trv x)
theorem pg_ok {k : Nat} {l0 : List ByteArray} {l1 : List S39} {sc : PgS} {ad ad' : PgA} {ks ks' : PgK} {i : Nat} (h : pg k l0 l1 sc ad ks i = some (0, ad', ks')) :
    tkey (rd_T39 l1 i) = some (trv (rd_T39 l1 i)) ∧ (Mp.look ks (pkey (rd_T39 l1 i))).getD false = false ∧ ∃ k2, ks' = (pkey (rd_T39 l1 i), true) :: ((pg_key, k2), true) :: ks := by
  unfold pg at h
  generalize rd_T39 l1 (i : Int) = x at *
  split at h
  case isFalse => cases h
  obtain ⟨n, _, h⟩ := Option.bind_eq_some_iff.1 h
  split at h
  · cases h
  obtain ⟨b1, _, h⟩ := Option.bind_eq_some_iff.1 h
  unfold pg_a1 at h
  split at h
  · cases h
  obtain ⟨b2, _, h⟩ := Option.bind_eq_some_iff.1 h
  unfold pg_a2 at h
  split at h
  · cases h
  obtain ⟨b3, _, h⟩ := Option.bind_eq_some_iff.1 h
  unfold pg_a3 at h
  split at h
  · cases h
  unfold pg_c at h
  obtain ⟨e, _, h⟩ := Option.bind_eq_some_iff.1 h
  split at h
  case isFalse hne => 
    injection h with h
    injection h with h _
    exact absurd h hne
  unfold pg_mid at h
  obtain ⟨t, ht, h⟩ := Option.bind_eq_some_iff.1 h
  rw [tkey_at] at ht
  have et : trv x = t := by unfold trv; rw [ht]; rfl
  split at h
  case isFalse => cases h
  split at h
  · cases h
  rename_i hno
  split at h
  · cases h
  obtain ⟨e2, _, h⟩ := Option.bind_eq_some_iff.1 h
  injection h with h
  injection h with _ h
  injection h with _ h
  unfold pkey
  rw [et]
  refine ⟨ht, ?_, (x.f2, x.f1), h.symm⟩
  rw [Bool.not_eq_true, Bool.or_eq_false_iff, Bool.or_eq_false_iff] at hno
  exact hno.2.2
theorem tr_pg : tr_key ≠ pg_key := by decide
theorem go_ok {k : Nat} {l0 : List ByteArray} {l1 : List S39} {sc : PgS} : ∀ (n i : Nat) (ad : PgA) (ks : PgK), cs_go k l0 l1 sc n i ad ks = some 0 →
    (∀ m : Nat, i ≤ m → m < i + n → tkey (rd_T39 l1 m) = some (trv (rd_T39 l1 m)) ∧ (Mp.look ks (pkey (rd_T39 l1 m))).getD false = false) ∧
    ∀ m m' : Nat, i ≤ m → m < m' → m' < i + n → pkey (rd_T39 l1 m) ≠ pkey (rd_T39 l1 m')
  | 0, i, ad, ks, _ => ⟨fun m h1 h2 => by omega, fun m m' h1 h2 h3 => by omega⟩
  | n + 1, i, ad, ks, h => by
    unfold cs_go at h
    obtain ⟨⟨e, ad', ks'⟩, hp, h⟩ := Option.bind_eq_some_iff.1 h
    split at h
    case isFalse hne =>
      injection h with h
      exact absurd h hne
    rename_i he
    dsimp only at he
    subst he
    obtain ⟨h1, h2, k2, rfl⟩ := pg_ok hp
    obtain ⟨g1, g2⟩ := go_ok n (i + 1) _ _ h
    have step : ∀ m : Nat, i + 1 ≤ m → m < i + 1 + n → pkey (rd_T39 l1 i) ≠ pkey (rd_T39 l1 m) ∧ (Mp.look ks (pkey (rd_T39 l1 m))).getD false = false := fun m hm1 hm2 => by
      have h3 := (g1 m hm1 hm2).2
      rw [Mp.look] at h3
      split at h3
      · cases h3
      rename_i hne
      rw [Mp.look] at h3
      split at h3
      · cases h3
      exact ⟨hne, h3⟩
    refine ⟨fun m hm1 hm2 => ?_, fun m m' hm1 hm2 hm3 => ?_⟩
    · by_cases hmi : m = i
      · subst hmi; exact ⟨h1, h2⟩
      · exact ⟨(g1 m (by omega) (by omega)).1, (step m (by omega) (by omega)).2⟩
    · by_cases hmi : m = i
      · subst hmi; exact (step m' (by omega) (by omega)).1
      · exact g2 m m' (by omega) hm2 (by omega)
/-! ### The list of translations -/
/-- the numbers from i on, of d more, whose key is L -/
def tl (l1 : List S39) (L : List UInt8) : Nat → Nat → List Int
  | 0, _ => []
  | d + 1, i => if (trv (rd_T39 l1 i)).toList = L then (i : Int) :: tl l1 L d (i + 1) else tl l1 L d (i + 1)
def T (l1 : List S39) (i : Nat) : List Int := tl l1 (trv (rd_T39 l1 i)).toList l1.length 0
theorem tl_loop (l1 : List S39) (t : ByteArray) (hn : l1.length ≤ 1500) (hk : ∀ m : Nat, m < l1.length → tkey (rd_T39 l1 m) = some (trv (rd_T39 l1 m))) : ∀ (d i : Nat) (acc : List Int), i + d = l1.length → acc.length ≤ i →
    Ev (fun k => tree_translations.l0 k t acc l1 (l1.length : Int) (i : Int)) (acc ++ tl l1 t.toList d i)
  | 0, i, acc, h, ha => Ev.step (f := fun _ => some (acc ++ tl l1 t.toList 0 i)) (fun k => by rw [tree_translations.l0, if_neg (by omega)]; simp [tl]) (Ev.now _)
  | d + 1, i, acc, h, ha => by
    have hki := hk i (by omega)
    by_cases c : (trv (rd_T39 l1 i)).toList = t.toList
    · have ih := tl_loop l1 t hn hk d (i + 1) (acc ++ [(i : Int)]) (by omega) (by simp; omega)
      rw [tl, if_pos c, ← List.singleton_append, ← List.append_assoc]
      refine Ev.step (fun k => ?_) ih
      rw [tree_translations.l0, if_pos (by omega), if_pos (by omega), if_pos (by omega), tkey_at, hki, Option.bind_some, if_pos c, if_pos (by omega), w1 (n := l1.length) (by omega) (by omega)]
    · have ih := tl_loop l1 t hn hk d (i + 1) acc (by omega) (by omega)
      rw [tl, if_neg c]
      refine Ev.step (fun k => ?_) ih
      rw [tree_translations.l0, if_pos (by omega), if_pos (by omega), if_pos (by omega), tkey_at, hki, Option.bind_some, if_neg c, w1 (n := l1.length) (by omega) (by omega)]
theorem tl_mem (l1 : List S39) (L : List UInt8) : ∀ (d i : Nat) (z : Int), z ∈ tl l1 L d i ↔ ∃ q : Nat, z = q ∧ i ≤ q ∧ q < i + d ∧ (trv (rd_T39 l1 q)).toList = L
  | 0, i, z => ⟨fun h => (by cases h), fun ⟨q, _, _, _, _⟩ => by omega⟩
  | d + 1, i, z => by
    rw [tl]
    constructor
    · intro h
      split at h
      · rename_i c
        rcases List.mem_cons.1 h with h | h
        · exact ⟨i, h, Nat.le_refl _, by omega, c⟩
        · obtain ⟨q, h1, h2, h3, h4⟩ := (tl_mem l1 L d (i + 1) z).1 h
          exact ⟨q, h1, by omega, by omega, h4⟩
      · obtain ⟨q, h1, h2, h3, h4⟩ := (tl_mem l1 L d (i + 1) z).1 h
        exact ⟨q, h1, by omega, by omega, h4⟩
    · rintro ⟨q, rfl, h2, h3, h4⟩
      by_cases e : q = i
      · subst e
        rw [if_pos h4]
        exact List.mem_cons_self ..
      · have := (tl_mem l1 L d (i + 1) (q : Int)).2 ⟨q, rfl, by omega, by omega, h4⟩
        split
        · exact List.mem_cons_of_mem _ this
        · exact this
theorem tl_nodup (l1 : List S39) (L : List UInt8) : ∀ (d i : Nat), (tl l1 L d i).Nodup
  | 0, i => List.nodup_nil
  | d + 1, i => by
    rw [tl]
    split
    · refine List.nodup_cons.2 ⟨fun h => ?_, tl_nodup l1 L d (i + 1)⟩
      obtain ⟨q, h1, h2, _, _⟩ := (tl_mem l1 L d (i + 1) (i : Int)).1 h
      omega
    · exact tl_nodup l1 L d (i + 1)
theorem tl_len (l1 : List S39) (L : List UInt8) : ∀ (d i : Nat), (tl l1 L d i).length ≤ d
  | 0, i => Nat.le_refl _
  | d + 1, i => by
    have := tl_len l1 L d (i + 1)
    rw [tl]
    split
    · rw [List.length_cons]; omega
    · omega
theorem rd_mem {l : List Int} {j : Nat} (h : j < l.length) : rd l (j : Int) = l[j] := by
  unfold rd
  rw [Int.toNat_natCast, List.getD_eq_getElem?_getD, List.getElem?_eq_getElem h]; rfl
theorem index_loop (l : List Int) (z : Int) (hl : l.length ≤ 1500) : ∀ (d i : Nat), i + d = l.length → (∃ (j : Nat) (h : j < l.length), i ≤ j ∧ l[j] = z) → ∃ r : Nat, Ev (fun k => slices_Index_int_int.l0 k l z (l.length : Int) (i : Int)) (r : Int)
  | 0, i, h, ⟨j, h1, h2, _⟩ => by omega
  | d + 1, i, h, ⟨j, h1, h2, h3⟩ => by
    have hr := rd_mem (show i < l.length by omega)
    by_cases c : z = rd l (i : Int)
    · refine ⟨i, Ev.step (f := fun _ => some (i : Int)) (fun k => ?_) (Ev.now _)⟩
      rw [slices_Index_int_int.l0, if_pos (by omega), if_pos (by omega), if_pos (by omega), if_pos c]
    · have hne : j ≠ i := by
        rintro rfl
        exact c (by rw [hr, h3])
      obtain ⟨r, hr⟩ := index_loop l z hl d (i + 1) (by omega) ⟨j, h1, by omega, h3⟩
      refine ⟨r, Ev.step (fun k => ?_) hr⟩
      rw [slices_Index_int_int.l0, if_pos (by omega), if_pos (by omega), if_pos (by omega), if_neg c, w1 (n := l.length) (by omega) (by omega)]
theorem contains_ev (l : List Int) (z : Int) (hl : l.length ≤ 1500) (hz : z ∈ l) : Ev (fun k => slices_Contains_int_int.f k l z) true := by
  obtain ⟨j, hj, h⟩ := List.mem_iff_getElem.1 hz
  obtain ⟨r, hr⟩ := index_loop l z hl l.length 0 (by omega) ⟨j, hj, Nat.zero_le _, h⟩
  unfold slices_Contains_int_int.f slices_Index_int_int.f
  refine Ev.bind hr ?_
  rw [decide_eq_true (show (r : Int) ≥ 0 by omega)]
  exact Ev.now true
theorem equal_loop (l : List Int) (hl : l.length ≤ 1500) : ∀ (d i : Nat), i + d = l.length → Ev (fun k => slices_Equal_int_int.l0 k l l (l.length : Int) (i : Int)) true
  | 0, i, h => Ev.step (f := fun _ => some true) (fun k => by rw [slices_Equal_int_int.l0, if_neg (by omega)]) (Ev.now _)
  | d + 1, i, h => by
    refine Ev.step (fun k => ?_) (equal_loop l hl d (i + 1) (by omega))
    rw [slices_Equal_int_int.l0, if_pos (by omega), if_pos (by omega), if_pos (by omega), if_pos (by omega), if_pos rfl, w1 (n := l.length) (by omega) (by omega)]
theorem equal_ev (l : List Int) (hl : l.length ≤ 1500) : Ev (fun k => slices_Equal_int_int.f k l l) true := by
  unfold slices_Equal_int_int.f
  exact Ev.congr (fun k => if_pos rfl) (equal_loop l hl l.length 0 (by omega))
theorem look_none {l : PgA} {z : ByteArray} (h : ∀ p ∈ l, p.1 ≠ z) : Mp.look l z = none := by
  induction l with
  | nil => rfl
  | cons p r ih =>
    obtain ⟨a, b⟩ := p
    rw [Mp.look, if_neg (h (a, b) (List.mem_cons_self ..))]
    exact ih fun q hq => h q (List.mem_cons_of_mem _ hq)
theorem sn_mem (l1 : List S39) (t : List Int) : ∀ (j : Nat) (p : ByteArray × Bool), p ∈ sn l1 t j → ∃ j' : Nat, j' < j ∧ p.1 = (rd_T39 l1 (rd t j')).f2
  | 0, p, h => by cases h
  | j + 1, p, h => by
    rcases List.mem_cons.1 h with h | h
    · exact ⟨j, Nat.lt_succ_self _, by rw [h]⟩
    · obtain ⟨j', h1, h2⟩ := sn_mem l1 t j p h
      exact ⟨j', by omega, h2⟩
/-- for finitely many at once -/
theorem ev_all {α : Type} (g : Nat → Nat → Option α) (r : Nat → α) : ∀ n : Nat, (∀ i, i < n → Ev (g i) (r i)) → ∃ K, ∀ k, K ≤ k → ∀ i, i < n → g i k = some (r i)
  | 0, _ => ⟨0, fun k _ i h => by omega⟩
  | n + 1, h => by
    obtain ⟨K1, h1⟩ := ev_all g r n (fun i hi => h i (by omega))
    obtain ⟨K2, h2⟩ := h n (Nat.lt_succ_self _)
    refine ⟨K1 + K2, fun k hk i hi => ?_⟩
    by_cases e : i = n
    · subst e; exact h2 k (by omega)
    · exact h1 k (by omega) i (by omega)
theorem toList_inj {a b : ByteArray} (h : a.toList = b.toList) : a = b := bytes_ext (by rw [← Lib.toList_data, ← Lib.toList_data]; exact h)
/-- The law, for all sites of pages that fit. -/
theorem TreeTranslates (l0 : List ByteArray) (l1 : List S39) (hall : ∀ x ∈ l1, Wp x) : ∃ (k : Nat) (r : Int), mastkeep2_awakeTree.f k = some true ∧ tree_CheckSite.f k l0 l1 = some r ∧ (r = 0 → ∃ T, TTs k l0 l1 T) := by
  obtain ⟨K1, h1⟩ := awake_ev
  obtain ⟨r, ⟨K2, h2⟩, hr⟩ := cs_tt l0 l1 hall
  by_cases h0 : r = 0
  case neg => exact ⟨K1 + K2, r, h1 _ (by omega), h2 _ (by omega), fun h => absurd h h0⟩
  subst h0
  obtain ⟨hl0, hl8, hn, ⟨K3, h3⟩⟩ := hr rfl
  have hgo := h3 K3 (Nat.le_refl _)
  obtain ⟨g1, g2⟩ := go_ok _ _ _ _ hgo
  have hk : ∀ m : Nat, m < l1.length → tkey (rd_T39 l1 m) = some (trv (rd_T39 l1 m)) := fun m hm => (g1 m (Nat.zero_le _) (by omega)).1
  have htr : ∀ i : Nat, i < l1.length → Ev (fun k => tree_Translations.f k l0 l1 i) (T l1 i, 0) := fun i hi => by
    unfold tree_Translations.f
    have hnum : Ev (fun k => tree_numbered.f k l0 l1 i) 0 := by
      unfold tree_numbered.f
      refine Ev.bind ⟨K2, h2⟩ ?_
      rw [if_pos rfl, if_neg (by omega), if_neg (by omega)]
      exact Ev.now 0
    refine Ev.bind hnum ?_
    refine Ev.congr (fun k => if_pos rfl) ?_
    refine Ev.bind (a := T l1 i) ?_ (Ev.now _)
    unfold tree_translations.f
    refine Ev.congr (fun k => by rw [if_pos (by omega), if_pos (by omega), tkey_at, hk i hi, Option.bind_some]) ?_
    exact tl_loop l1 (trv (rd_T39 l1 i)) hn hk l1.length 0 [] (by omega) (Nat.zero_le _)
  have hmem : ∀ (i : Nat) (z : Int), z ∈ T l1 i → ∃ q : Nat, z = q ∧ q < l1.length ∧ (trv (rd_T39 l1 q)).toList = (trv (rd_T39 l1 i)).toList := fun i z hz => by
    obtain ⟨q, e, _, hq, ht⟩ := (tl_mem l1 _ _ _ z).1 hz
    exact ⟨q, e, by omega, ht⟩
  have hlen : ∀ i, (T l1 i).length ≤ 1500 := fun i => Nat.le_trans (tl_len _ _ _ _) hn
  obtain ⟨K4, h4⟩ := ev_all (fun i k => tree_Translations.f k l0 l1 i) (fun i => (T l1 i, 0)) l1.length htr
  obtain ⟨K5, h5⟩ := ev_all (fun i k => slices_Contains_int_int.f k (T l1 i) i) (fun _ => true) l1.length (fun i hi => contains_ev _ _ (hlen i) ((tl_mem l1 _ _ _ _).2 ⟨i, rfl, Nat.zero_le _, by omega, rfl⟩))
  obtain ⟨K6, h6⟩ := ev_all (fun i k => slices_Equal_int_int.f k (T l1 i) (T l1 i)) (fun _ => true) l1.length (fun i hi => equal_ev _ (hlen i))
  refine ⟨K1 + K2 + K4 + K5 + K6, 0, h1 _ (by omega), h2 _ (by omega), fun _ => ⟨T l1, fun i hi => h4 _ (by omega) i hi, fun i hi => h5 _ (by omega) i hi, fun i hi j hj => ?_, fun j hj => ml (hall _ (rd39_mem hj)).h2, fun i _ => hlen i⟩⟩
  obtain ⟨q, e, hq, ht⟩ := hmem i _ (List.getElem_mem hj)
  refine ⟨q, by rw [rd_mem hj, e], hq, ?_, ?_⟩
  · have : T l1 q = T l1 i := by unfold T; rw [ht]
    rw [this]
    exact h6 _ (by omega) i hi
  · rw [look_none]
    · rfl
    intro p hp he
    obtain ⟨j', hj', hp2⟩ := sn_mem l1 _ _ _ hp
    have hj2 : j' < (T l1 i).length := by omega
    obtain ⟨q', e', hq', ht'⟩ := hmem i _ (List.getElem_mem hj2)
    rw [rd_mem hj2, e'] at hp2
    have hlang : (rd_T39 l1 (q' : Int)).f2 = (rd_T39 l1 (q : Int)).f2 := hp2.symm.trans he
    have hkey : pkey (rd_T39 l1 (q' : Int)) = pkey (rd_T39 l1 (q : Int)) := by
      unfold pkey
      rw [hlang, toList_inj (ht'.trans ht.symm)]
    have hqq : q' ≠ q := by
      rintro rfl
      exact List.pairwise_iff_getElem.1 (tl_nodup l1 _ l1.length 0) j' j hj2 hj hj' (e'.trans e.symm)
    rcases Nat.lt_or_gt_of_ne hqq with hlt | hlt
    · exact g2 q' q (Nat.zero_le _) hlt (by omega) hkey
    · exact g2 q q' (Nat.zero_le _) hlt (by omega) hkey.symm
end Go.Proofs.YtcgmieeojngceaaDoor.Pure
