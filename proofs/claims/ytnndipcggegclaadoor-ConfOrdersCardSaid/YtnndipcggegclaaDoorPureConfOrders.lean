/- Compare is a total order of three values: asked the other way round it gives the opposite, of a value with itself 0, and it is transitive; no condition. -/
import Derived.Test.YtnndipcggegclaaDoorPConfOrdersx2
namespace Go.Proofs.YtnndipcggegclaaDoor.Pure
open Go.RowKit Go.Proofs.YtnndipcggegclaaDoor.PConfOrders Go.Proofs.YtnndipcggegclaaDoorW.PrintWords Go.Proofs.YtnndipcggegclaaDoorW.PrintLast Go.Proofs.YtnndipcggegclaaDoorW.PrintMore

theorem w64 {n : Int} (h0 : -9223372036854775808 ≤ n) (h1 : n < 9223372036854775808) : wrap64 n = n := by unfold wrap64; omega
/-! ### Orders, as numbers: three values are compared -/
def lex (c d : Int) : Int := if c = 0 then d else c
def Sgn (a : Int) : Prop := a = -1 ∨ a = 0 ∨ a = 1
/-- a: the first with the second; b: the second with the third; c: the first with the third. -/
def Tri (a b c : Int) : Prop := (Sgn a ∧ Sgn b ∧ Sgn c) ∧ (a ≤ 0 → b ≤ 0 → c ≤ 0 ∧ (c = 0 → a = 0 ∧ b = 0)) ∧ (0 ≤ a → 0 ≤ b → 0 ≤ c ∧ (c = 0 → a = 0 ∧ b = 0))
theorem sgn_lex {a b : Int} (ha : Sgn a) (hb : Sgn b) : Sgn (lex a b) := by
  unfold lex; split
  · exact hb
  · exact ha
theorem neg_lex (a b : Int) : lex (-a) (-b) = -(lex a b) := by
  unfold lex
  by_cases h : a = 0
  · rw [if_pos h, if_pos (by omega)]
  · rw [if_neg h, if_neg (by omega)]
theorem lex_or (a b : Int) : (a = 0 ∧ lex a b = b) ∨ (a ≠ 0 ∧ lex a b = a) := by
  unfold lex
  by_cases h : a = 0
  · exact .inl ⟨h, if_pos h⟩
  · exact .inr ⟨h, if_neg h⟩
theorem tri_lex {a b c a' b' c' : Int} (h : Tri a b c) (h' : Tri a' b' c') : Tri (lex a a') (lex b b') (lex c c') := by
  obtain ⟨⟨ha, hb, hc⟩, h1, h2⟩ := h
  obtain ⟨⟨ha', hb', hc'⟩, h1', h2'⟩ := h'
  have la := lex_or a a'
  have lb := lex_or b b'
  have lc := lex_or c c'
  have s1 := sgn_lex ha ha'
  have s2 := sgn_lex hb hb'
  have s3 := sgn_lex hc hc'
  generalize lex a a' = A at *
  generalize lex b b' = B at *
  generalize lex c c' = C at *
  refine ⟨⟨s1, s2, s3⟩, ?_, ?_⟩
  · unfold Sgn at *
    omega
  · unfold Sgn at *
    omega
theorem tri_zero : Tri 0 0 0 := by unfold Tri Sgn; omega

/-! ### Whole numbers, bools -/
def sg (a b : Int) : Int := if a < b then -1 else if a > b then 1 else 0
theorem sg_neg (a b : Int) : sg b a = -(sg a b) := by unfold sg; split <;> split <;> (try split) <;> omega
theorem sg_tri (a b c : Int) : Tri (sg a b) (sg b c) (sg a c) := by
  unfold Tri Sgn sg
  split <;> split <;> split <;> (try split) <;> (try split) <;> (try split) <;> omega
def bi (b : Bool) : Int := if b = true then 1 else 0

/-! ### Lists -/
def cmpList {α : Type} (c : α → α → Int) : List α → List α → Int
  | [], [] => 0
  | [], _ :: _ => -1
  | _ :: _, [] => 1
  | a :: xs', b :: ys' => lex (c a b) (cmpList c xs' ys')
theorem cmpList_neg {α : Type} {c : α → α → Int} : ∀ (xs ys : List α), (∀ x ∈ xs, ∀ y ∈ ys, c y x = -(c x y)) → cmpList c ys xs = -(cmpList c xs ys)
  | [], [], _ => rfl
  | [], _ :: _, _ => rfl
  | _ :: _, [], _ => rfl
  | a :: xs', b :: ys', h => by
    show lex (c b a) (cmpList c ys' xs') = -(lex (c a b) (cmpList c xs' ys'))
    rw [h a (List.mem_cons_self ..) b (List.mem_cons_self ..), cmpList_neg xs' ys' (fun x hx y hy => h x (List.mem_cons_of_mem _ hx) y (List.mem_cons_of_mem _ hy)), neg_lex]
theorem cmpList_sgn {α : Type} {c : α → α → Int} : ∀ (xs ys : List α), (∀ x ∈ xs, ∀ y ∈ ys, Sgn (c x y)) → Sgn (cmpList c xs ys)
  | [], [], _ => .inr (.inl rfl)
  | [], _ :: _, _ => .inl rfl
  | _ :: _, [], _ => .inr (.inr rfl)
  | a :: xs', b :: ys', h => sgn_lex (h a (List.mem_cons_self ..) b (List.mem_cons_self ..)) (cmpList_sgn xs' ys' (fun x hx y hy => h x (List.mem_cons_of_mem _ hx) y (List.mem_cons_of_mem _ hy)))
theorem cmpList_tri {α : Type} {c : α → α → Int} : ∀ (xs ys zs : List α), (∀ x ∈ xs, ∀ y ∈ ys, ∀ z ∈ zs, Tri (c x y) (c y z) (c x z)) → (∀ x ∈ xs, ∀ y ∈ ys, Sgn (c x y)) → (∀ x ∈ ys, ∀ y ∈ zs, Sgn (c x y)) → (∀ x ∈ xs, ∀ y ∈ zs, Sgn (c x y)) →
    Tri (cmpList c xs ys) (cmpList c ys zs) (cmpList c xs zs)
  | [], [], [], _, _, _, _ => tri_zero
  | [], [], _ :: _, _, _, _, _ => by show Tri 0 (-1) (-1); unfold Tri Sgn; omega
  | [], b :: ys', [], _, _, _, _ => by show Tri (-1) 1 0; unfold Tri Sgn; omega
  | [], b :: ys', z :: zs, _, _, hy, _ => by
    have := cmpList_sgn (b :: ys') (z :: zs) hy
    show Tri (-1) (cmpList c (b :: ys') (z :: zs)) (-1); unfold Sgn at this; unfold Tri Sgn; omega
  | a :: xs', [], [], _, _, _, _ => by show Tri 1 0 1; unfold Tri Sgn; omega
  | a :: xs', [], z :: zs, _, _, _, hz => by
    have := cmpList_sgn (a :: xs') (z :: zs) hz
    show Tri 1 (-1) (cmpList c (a :: xs') (z :: zs)); unfold Sgn at this; unfold Tri Sgn; omega
  | a :: xs', b :: ys', [], _, hx, _, _ => by
    have := cmpList_sgn (a :: xs') (b :: ys') hx
    show Tri (cmpList c (a :: xs') (b :: ys')) 1 1; unfold Sgn at this; unfold Tri Sgn; omega
  | a :: xs', b :: ys', z :: zs, h, hx, hy, hz => by
    have m := @List.mem_cons_of_mem α
    exact tri_lex (h a (List.mem_cons_self ..) b (List.mem_cons_self ..) z (List.mem_cons_self ..))
      (cmpList_tri xs' ys' zs (fun x h1 y h2 z h3 => h x (List.mem_cons_of_mem _ h1) y (List.mem_cons_of_mem _ h2) z (List.mem_cons_of_mem _ h3)) (fun x h1 y h2 => hx x (List.mem_cons_of_mem _ h1) y (List.mem_cons_of_mem _ h2))
        (fun x h1 y h2 => hy x (List.mem_cons_of_mem _ h1) y (List.mem_cons_of_mem _ h2)) (fun x h1 y h2 => hz x (List.mem_cons_of_mem _ h1) y (List.mem_cons_of_mem _ h2)))
theorem cmpList_self {α : Type} {c : α → α → Int} : ∀ (xs : List α), (∀ x ∈ xs, c x x = 0) → cmpList c xs xs = 0
  | [], _ => rfl
  | a :: xs', h => by
    show lex (c a a) (cmpList c xs' xs') = 0
    rw [h a (List.mem_cons_self ..), cmpList_self xs' (fun x hx => h x (List.mem_cons_of_mem _ hx))]; rfl

/-! ### Strings -/
def byteCmp (a b : UInt8) : Int := sg a.toNat b.toNat
theorem bytes_eq : ∀ (a b : List UInt8), Lib.compareBytes a b = cmpList byteCmp a b
  | [], [] => rfl
  | [], _ :: _ => rfl
  | _ :: _, [] => rfl
  | a :: xs', b :: ys' => by
    show (if a < b then (-1 : Int) else if b < a then 1 else Lib.compareBytes xs' ys') = lex (sg a.toNat b.toNat) (cmpList byteCmp xs' ys')
    rw [bytes_eq xs' ys']
    unfold lex sg
    by_cases h1 : a < b
    · have := UInt8.lt_iff_toNat_lt.1 h1
      rw [if_pos h1, if_pos (show (a.toNat : Int) < b.toNat by omega), if_neg (by decide)]
    · have h1' : ¬ (a.toNat < b.toNat) := fun h => h1 (UInt8.lt_iff_toNat_lt.2 h)
      rw [if_neg h1, if_neg (show ¬ (a.toNat : Int) < b.toNat by omega)]
      by_cases h2 : b < a
      · have := UInt8.lt_iff_toNat_lt.1 h2
        rw [if_pos h2, if_pos (show (a.toNat : Int) > b.toNat by omega), if_neg (by decide)]
      · have h2' : ¬ (b.toNat < a.toNat) := fun h => h2 (UInt8.lt_iff_toNat_lt.2 h)
        rw [if_neg h2, if_neg (show ¬ (a.toNat : Int) > b.toNat by omega), if_pos rfl]
def cb (a b : ByteArray) : Int := Lib.compareBytes a.data.toList b.data.toList
theorem cb_neg (a b : ByteArray) : cb b a = -(cb a b) := by
  unfold cb; rw [bytes_eq, bytes_eq]; exact cmpList_neg _ _ (fun x _ y _ => sg_neg _ _)
theorem cb_tri (a b c : ByteArray) : Tri (cb a b) (cb b c) (cb a c) := by
  unfold cb; rw [bytes_eq, bytes_eq, bytes_eq]
  exact cmpList_tri _ _ _ (fun x _ y _ z _ => sg_tri _ _ _) (fun x _ y _ => (sg_tri _ _ x.toNat).1.1) (fun x _ y _ => (sg_tri _ _ x.toNat).1.1) (fun x _ y _ => (sg_tri _ _ x.toNat).1.1)

/-! ### Values -/
/-- Compare, as a plain function; d: how deep it looks. -/
def cv : Nat → S37 → S37 → Int
  | 0, _, _ => 0
  | d + 1, x, y => lex (sg x.f0 y.f0) (lex (sg (bi x.f1) (bi y.f1)) (lex (sg x.f2 y.f2) (lex (cb x.f3 y.f3) (lex (cmpList cb x.f5 y.f5) (cmpList (cv d) x.f4 y.f4)))))
theorem cv_neg : ∀ d x y, cv d y x = -(cv d x y)
  | 0, _, _ => rfl
  | d + 1, x, y => by
    simp only [cv]
    rw [sg_neg x.f0 y.f0, sg_neg (bi x.f1) (bi y.f1), sg_neg x.f2 y.f2, cb_neg x.f3 y.f3, cmpList_neg x.f5 y.f5 (fun a _ b _ => cb_neg a b), cmpList_neg x.f4 y.f4 (fun a _ b _ => cv_neg d a b)]
    simp only [neg_lex]
theorem cv_tri : ∀ d x y z, Tri (cv d x y) (cv d y z) (cv d x z)
  | 0, _, _, _ => tri_zero
  | d + 1, x, y, z => by
    simp only [cv]
    exact tri_lex (sg_tri _ _ _) (tri_lex (sg_tri _ _ _) (tri_lex (sg_tri _ _ _) (tri_lex (cb_tri _ _ _) (tri_lex
      (cmpList_tri _ _ _ (fun a _ b _ c _ => cb_tri a b c) (fun a _ b _ => (cb_tri a b a).1.1) (fun a _ b _ => (cb_tri a b a).1.1) (fun a _ b _ => (cb_tri a b a).1.1))
      (cmpList_tri _ _ _ (fun a _ b _ c _ => cv_tri d a b c) (fun a _ b _ => (cv_tri d a b a).1.1) (fun a _ b _ => (cv_tri d a b a).1.1) (fun a _ b _ => (cv_tri d a b a).1.1))))))
theorem cv_self (d : Nat) (x : S37) : cv d x x = 0 := by
  have := cv_neg d x x
  omega

/-! ### The printed function is this one -/
theorem sign_eq (a b : Int) : conf_sign.f a b = some (sg a b) := by
  unfold conf_sign.f sg; split <;> (try split) <;> rfl
theorem bit_eq (b : Bool) : conf_bit.f b = some (bi b) := by
  unfold conf_bit.f bi; split <;> rfl
abbrev F (k : Nat) (x y : S37) : Option Int := conf_Compare.f k x.f0 x.f1 x.f2 x.f3 x.f4 x.f5 y.f0 y.f1 y.f2 y.f3 y.f4 y.f5
/-- The rest of two lists, looked at from place i on, decides. -/
theorem cmp_tail {α : Type} (c : α → α → Int) (xs ys : List α) (i : Nat) (hx : xs.length ≤ i ∨ ys.length ≤ i) (h1 : i ≤ xs.length) (h2 : i ≤ ys.length) : cmpList c (xs.drop i) (ys.drop i) = sg (xs.length : Int) (ys.length : Int) := by
  unfold sg
  rcases Nat.lt_trichotomy xs.length ys.length with h | h | h
  · rw [if_pos (by omega), List.drop_eq_nil_of_le (show xs.length ≤ i by omega), List.drop_eq_getElem_cons (show i < ys.length by omega)]; rfl
  · rw [if_neg (by omega), if_neg (by omega), List.drop_eq_nil_of_le (show xs.length ≤ i by omega), List.drop_eq_nil_of_le (show ys.length ≤ i by omega)]; rfl
  · rw [if_neg (by omega), if_pos (by omega), List.drop_eq_nil_of_le (show ys.length ≤ i by omega), List.drop_eq_getElem_cons (show i < xs.length by omega)]; rfl
theorem l2_at (d : Nat) (x y : S37) (hx : x.f4.length < 9223372036854775807) (hitems : ∀ a ∈ x.f4, ∀ b ∈ y.f4, ∃ k, F k a b = some (cv d a b)) : ∀ (t i : Nat), t + i = x.f4.length → i ≤ y.f4.length →
    ∃ k, conf_Compare.l2 k (i : Int) x.f0 x.f1 x.f2 x.f3 x.f4 x.f5 y.f0 y.f1 y.f2 y.f3 y.f4 y.f5 = some (cmpList (cv d) (x.f4.drop i) (y.f4.drop i)) := by
  intro t
  induction t with
  | zero =>
    intro i hi hy
    refine ⟨2, ?_⟩
    rw [conf_Compare.l2, if_neg (by omega), conf_Compare.j4, if_neg (by decide), sign_eq, Option.bind_some, cmp_tail _ _ _ i (by omega) (by omega) hy]
  | succ t ih =>
    intro i hi hy
    by_cases c : i < y.f4.length
    · obtain ⟨k1, h1⟩ := hitems (x.f4[i]'(by omega)) (List.getElem_mem _) (y.f4[i]'c) (List.getElem_mem _)
      obtain ⟨k2, h2⟩ := ih (i + 1) (by omega) (by omega)
      refine ⟨k1 + k2 + 2, ?_⟩
      have e1 : rd_T37 x.f4 (i : Int) = x.f4[i]'(by omega) := by
        unfold rd_T37; rw [Int.toNat_natCast, List.getD, List.getElem?_eq_getElem (by omega)]; rfl
      have e2 : rd_T37 y.f4 (i : Int) = y.f4[i]'c := by
        unfold rd_T37; rw [Int.toNat_natCast, List.getD, List.getElem?_eq_getElem c]; rfl
      have h1' := at_rounds (conf_Compare.mono _ _ _ _ _ _ _ _ _ _ _ _) (show k1 ≤ k1 + k2 by omega) h1
      have h2' := at_rounds (fun k => (conf_Compare.mono_l k).2.2.2.2.1 (((i + 1 : Nat)) : Int) x.f0 x.f1 x.f2 x.f3 x.f4 x.f5 y.f0 y.f1 y.f2 y.f3 y.f4 y.f5) (show k2 ≤ k1 + k2 by omega) h2
      rw [conf_Compare.l2, if_pos (by omega), decide_eq_true (show (i : Int) < (y.f4.length : Int) by omega), conf_Compare.j4, if_pos rfl, if_pos (by omega), if_pos (by omega), if_pos (by omega), e1, e2, h1', Option.bind_some]
      rw [List.drop_eq_getElem_cons (show i < x.f4.length by omega), List.drop_eq_getElem_cons c]
      show _ = some (lex (cv d (x.f4[i]'(by omega)) (y.f4[i]'c)) (cmpList (cv d) (x.f4.drop (i + 1)) (y.f4.drop (i + 1))))
      unfold lex
      by_cases z : cv d (x.f4[i]'(by omega)) (y.f4[i]'c) = 0
      · rw [if_pos z, if_pos z, w64 (by omega) (by omega)]
        exact h2'
      · rw [if_neg z, if_neg z]
    · refine ⟨2, ?_⟩
      rw [conf_Compare.l2, if_pos (by omega), decide_eq_false (by omega), conf_Compare.j4, if_neg (by decide), sign_eq, Option.bind_some, cmp_tail _ _ _ i (by omega) (by omega) hy]
theorem l1_at (x y : S37) (r : Int) (hx : x.f5.length < 9223372036854775807) (k0 : Nat) (h0 : conf_Compare.l2 k0 0 x.f0 x.f1 x.f2 x.f3 x.f4 x.f5 y.f0 y.f1 y.f2 y.f3 y.f4 y.f5 = some r) : ∀ (t i : Nat), t + i = x.f5.length → i ≤ y.f5.length →
    ∃ k, conf_Compare.l1 k (i : Int) x.f0 x.f1 x.f2 x.f3 x.f4 x.f5 y.f0 y.f1 y.f2 y.f3 y.f4 y.f5 = some (lex (cmpList cb (x.f5.drop i) (y.f5.drop i)) r) := by
  have hend : ∀ i : Nat, conf_Compare.j2 (k0 + 1) (i : Int) false x.f0 x.f1 x.f2 x.f3 x.f4 x.f5 y.f0 y.f1 y.f2 y.f3 y.f4 y.f5 = some (lex (sg (x.f5.length : Int) (y.f5.length : Int)) r) := by
    intro i
    rw [conf_Compare.j2, if_neg (by decide), sign_eq, Option.bind_some]
    unfold lex
    by_cases z : sg (x.f5.length : Int) (y.f5.length : Int) = 0
    · rw [if_pos z, if_pos z]; exact h0
    · rw [if_neg z, if_neg z]
  intro t
  induction t with
  | zero =>
    intro i hi hy
    refine ⟨k0 + 2, ?_⟩
    rw [conf_Compare.l1, if_neg (by omega), hend i, cmp_tail _ _ _ i (by omega) (by omega) hy]
  | succ t ih =>
    intro i hi hy
    by_cases c : i < y.f5.length
    · obtain ⟨k2, h2⟩ := ih (i + 1) (by omega) (by omega)
      refine ⟨k2 + 2, ?_⟩
      have e1 : rdOf ByteArray.empty x.f5 (i : Int) = x.f5[i]'(by omega) := by
        unfold rdOf; rw [Int.toNat_natCast, List.getD, List.getElem?_eq_getElem (by omega)]; rfl
      have e2 : rdOf ByteArray.empty y.f5 (i : Int) = y.f5[i]'c := by
        unfold rdOf; rw [Int.toNat_natCast, List.getD, List.getElem?_eq_getElem c]; rfl
      rw [conf_Compare.l1, if_pos (by omega), decide_eq_true (show (i : Int) < (y.f5.length : Int) by omega), conf_Compare.j2, if_pos rfl, if_pos (by omega), if_pos (by omega), if_pos (by omega), e1, e2, strings_Compare.f, Option.bind_some]
      rw [List.drop_eq_getElem_cons (show i < x.f5.length by omega), List.drop_eq_getElem_cons c]
      show (if cb (x.f5[i]'(by omega)) (y.f5[i]'c) = 0 then _ else some (cb (x.f5[i]'(by omega)) (y.f5[i]'c))) = some (lex (lex (cb (x.f5[i]'(by omega)) (y.f5[i]'c)) (cmpList cb (x.f5.drop (i + 1)) (y.f5.drop (i + 1)))) r)
      by_cases z : cb (x.f5[i]'(by omega)) (y.f5[i]'c) = 0
      · rw [if_pos z, z, w64 (by omega) (by omega)]
        exact h2
      · rw [if_neg z]
        unfold lex
        rw [if_neg z, if_neg z]
    · refine ⟨k0 + 2, ?_⟩
      rw [conf_Compare.l1, if_pos (by omega), decide_eq_false (by omega), hend i, cmp_tail _ _ _ i (by omega) (by omega) hy]
/-- How deep a value is, for the induction: any number that is large enough. -/
def Fits : Nat → S37 → Prop
  | 0, _ => False
  | d + 1, x => x.f4.length < 9223372036854775807 ∧ x.f5.length < 9223372036854775807 ∧ ∀ a ∈ x.f4, Fits d a
theorem fits_mono : ∀ d e x, d ≤ e → Fits d x → Fits e x
  | 0, _, _, _, h => h.elim
  | d + 1, 0, _, hd, _ => by omega
  | d + 1, e + 1, x, hd, h => ⟨h.1, h.2.1, fun a ha => fits_mono d e a (by omega) (h.2.2 a ha)⟩
theorem f_at : ∀ (d : Nat) (x y : S37), Fits d x → ∃ k, F k x y = some (cv d x y)
  | 0, _, _, h => h.elim
  | d + 1, x, y, h => by
    obtain ⟨k0, h0⟩ := l2_at d x y h.1 (fun a ha b _ => f_at d a b (h.2.2 a ha)) x.f4.length 0 rfl (by omega)
    obtain ⟨k1, h1⟩ := l1_at x y _ h.2.1 k0 h0 x.f5.length 0 rfl (by omega)
    refine ⟨k1 + 6, ?_⟩
    have up := fun n => at_rounds (fun k => (conf_Compare.mono_l k).2.2.1 0 x.f0 x.f1 x.f2 x.f3 x.f4 x.f5 y.f0 y.f1 y.f2 y.f3 y.f4 y.f5) (show k1 ≤ k1 + n by omega) h1
    show conf_Compare.f (k1 + 6) _ _ _ _ _ _ _ _ _ _ _ _ = _
    rw [conf_Compare.f]
    simp only [sign_eq, bit_eq, Option.bind_some, strings_Compare.f, cv]
    have w1 : wrap64 (0 + 1) = 1 := w64 (by omega) (by omega)
    have w2 : wrap64 (1 + 1) = 2 := w64 (by omega) (by omega)
    have w3 : wrap64 (2 + 1) = 3 := w64 (by omega) (by omega)
    have w4 : wrap64 (3 + 1) = 4 := w64 (by omega) (by omega)
    show conf_Compare.l0 (k1 + 5) [sg x.f0 y.f0, sg (bi x.f1) (bi y.f1), sg x.f2 y.f2, cb x.f3 y.f3] 4 0 _ _ _ _ _ _ _ _ _ _ _ _ = some (lex (sg x.f0 y.f0) (lex (sg (bi x.f1) (bi y.f1)) (lex (sg x.f2 y.f2) (lex (cb x.f3 y.f3) (lex (cmpList cb x.f5 y.f5) (cmpList (cv d) x.f4 y.f4))))))
    have r0 : ∀ a b c e : Int, rd [a, b, c, e] 0 = a := fun _ _ _ _ => rfl
    have r1 : ∀ a b c e : Int, rd [a, b, c, e] 1 = b := fun _ _ _ _ => rfl
    have r2 : ∀ a b c e : Int, rd [a, b, c, e] 2 = c := fun _ _ _ _ => rfl
    have r3 : ∀ a b c e : Int, rd [a, b, c, e] 3 = e := fun _ _ _ _ => rfl
    have hl : ∀ a b c e : Int, (([a, b, c, e] : List Int).length : Int) = 4 := fun _ _ _ _ => rfl
    rw [conf_Compare.l0, if_pos (by decide), if_pos (by decide), if_pos (by rw [hl]; decide), r0, w1]
    by_cases z0 : sg x.f0 y.f0 = 0
    case neg => rw [if_neg z0]; unfold lex; rw [if_neg z0]
    rw [if_pos z0, conf_Compare.l0, if_pos (by decide), if_pos (by decide), if_pos (by rw [hl]; decide), r1, w2]
    have e0 : ∀ q, lex (sg x.f0 y.f0) q = q := fun q => by unfold lex; rw [if_pos z0]
    rw [e0]
    by_cases z1 : sg (bi x.f1) (bi y.f1) = 0
    case neg => rw [if_neg z1]; unfold lex; rw [if_neg z1]
    rw [if_pos z1, conf_Compare.l0, if_pos (by decide), if_pos (by decide), if_pos (by rw [hl]; decide), r2, w3]
    have e1 : ∀ q, lex (sg (bi x.f1) (bi y.f1)) q = q := fun q => by unfold lex; rw [if_pos z1]
    rw [e1]
    by_cases z2 : sg x.f2 y.f2 = 0
    case neg => rw [if_neg z2]; unfold lex; rw [if_neg z2]
    rw [if_pos z2, conf_Compare.l0, if_pos (by decide), if_pos (by decide), if_pos (by rw [hl]; decide), r3, w4]
    have e2 : ∀ q, lex (sg x.f2 y.f2) q = q := fun q => by unfold lex; rw [if_pos z2]
    rw [e2]
    by_cases z3 : cb x.f3 y.f3 = 0
    case neg => rw [if_neg z3]; unfold lex; rw [if_neg z3]
    rw [if_pos z3, conf_Compare.l0, if_neg (by decide)]
    have e3 : ∀ q, lex (cb x.f3 y.f3) q = q := fun q => by unfold lex; rw [if_pos z3]
    rw [e3]
    exact up 0
end Go.Proofs.YtnndipcggegclaaDoor.Pure
