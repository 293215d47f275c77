/- For ConfKeeps: sorted keys are found; what is put together by dots is cut apart again; numerals are read back. For ConfKeeps: Check comes to an answer; what it lets pass is small, not deep, and its keys are in order. For ConfKeeps: what Check lets pass is small, not deep, and its keys are in order. For ConfKeeps: clone gives the same value; steps are told; what is set is found. For ConfKeeps: steps of a route; what is set is found again. (For ConfKeeps.) Compare is a total order of three values: asked the other way round it gives the opposite, of a value with itself 0, and it is transitive; no condition. For ConfKeeps: each route that Routes returns leads to a value. -/
import Derived.Test.YtlofkjdcapbohaaGreatDoorCfCE
import Derived.Lib.Atoi
import Derived.Lib.ItoaMem
namespace Go.Proofs.YtlofkjdcapbohaaGreatDoor.Pure
open Go.RowKit Go.Proofs.YtlofkjdcapbohaaGreatDoor.PConfKeeps Go.Proofs.YtlofkjdcapbohaaGreatDoorW.PrintWords Go.Proofs.YtlofkjdcapbohaaGreatDoorW.PrintLast Go.Proofs.YtlofkjdcapbohaaGreatDoorW.PrintMore
set_option linter.unusedVariables false
set_option linter.unusedSimpArgs false
/-! ### Binary search -/
theorem srch_at (p : Nat → Bool) (k len : Nat) (h0 : ∀ i, i < k → p i = false) (h1 : ∀ i, k ≤ i → i < len → p i = true) : ∀ n lo hi, lo ≤ k → k ≤ hi → hi ≤ len → hi - lo ≤ n → srch p n lo hi = k
 | 0, lo, hi, a, b, c, d => by rw [srch]; omega
 | n + 1, lo, hi, a, b, c, d => by
  rw [srch]
  split
  ·rename_i hlt
   by_cases hk : k ≤ (lo + hi) / 2
   ·rw [if_pos (h1 _ hk (by omega))]
    exact srch_at p k len h0 h1 n lo _ a hk (by omega) (by omega)
   ·rw [if_neg (by rw [h0 _ (by omega)]; decide)]
    exact srch_at p k len h0 h1 n _ hi (by omega) b c (by omega)
  ·omega
/-! ### Order of strings -/
theorem bless : ∀ (x y : List UInt8), Op.bytesLess x y = decide (x < y)
 | _, [] => by simp [Op.bytesLess]
 | [], _ :: _ => by simp [Op.bytesLess]
 | a :: x, b :: y => by
  rw [Op.bytesLess, bless x y]
  by_cases h1 : a < b
  ·simp [h1, List.cons_lt_cons_iff]
  ·by_cases h2 : a = b
   ·subst h2; simp [List.cons_lt_cons_iff]
   ·simp [h1, h2, List.cons_lt_cons_iff]
theorem sl_lt {a b : List UInt8} : Op.bytesLess a b = true ↔ a < b := by rw [bless]; simp
theorem tl_eq (a : ByteArray) : a.toList = a.data.toList := Lib.toList_data a
theorem tl_inj {a b : ByteArray} (h : a.toList = b.toList) : a = b := by
 rw [tl_eq, tl_eq] at h
 exact bytes_ext h
/-- keys one behind the other -/
def Srt (l : List ByteArray) : Prop := l.Pairwise (fun a b => Op.bytesLess a.toList b.toList = true)
theorem rdOf_at {l : List ByteArray} {i : Nat} (h : i < l.length) : rdOf ByteArray.empty l (i : Int) = l[i] := by
 unfold rdOf; simp [List.getD_eq_getElem?_getD, h]
theorem find_at (v : S25) (key : ByteArray) (k : Nat) (hk : k < v.f5.length) (hs : Srt v.f5) (he : v.f5[k] = key) (hl : v.f5.length ≤ 1000000000000) : conf_find.f v.f0 v.f1 v.f2 v.f3 v.f4 v.f5 key = some ((k : Int), true) := by
 have h : srch (geqAt v.f5 key) v.f5.length 0 v.f5.length = k := by
  refine srch_at _ k v.f5.length (fun i hi => ?_) (fun i h1 h2 => ?_) _ _ _ (Nat.zero_le _) (by omega) (Nat.le_refl _) (by omega)
  ·have hp := List.pairwise_iff_getElem.1 hs i k (by omega) hk hi
   unfold geqAt
   rw [rdOf_at (show i < v.f5.length by omega), ← he, hp]; rfl
  ·unfold geqAt
   rw [rdOf_at h2, ← he]
   rcases Nat.eq_or_lt_of_le h1 with rfl | hlt
   ·have : Op.bytesLess (v.f5[k]).toList (v.f5[k]).toList = false := by
     rw [bless]; exact decide_eq_false (List.lt_irrefl _)
    rw [this]; rfl
   ·have hp := sl_lt.1 (List.pairwise_iff_getElem.1 hs k i hk h2 hlt)
    have : Op.bytesLess (v.f5[i]).toList (v.f5[k]).toList = false := by
     rw [bless]; exact decide_eq_false (fun hq => List.lt_irrefl _ (List.lt_trans hp hq))
    rw [this]; rfl
 unfold conf_find.f sort_SearchStrings.f
 rw [if_pos hl, h, Option.bind_some, if_pos (by omega), if_pos (by omega), rdOf_at hk, he]
 simp
/-! ### Dots -/
/-- a route with one more part, as a list of bytes -/
def jnl (r p : List UInt8) : List UInt8 := if r = [] then p else r ++ 46 :: p
theorem joined_eq (r p : ByteArray) (h : r.size + p.size + 1 ≤ 9223372036854775807) : ∃ q, conf_joined.f r p = some q ∧ q.data.toList = jnl r.data.toList p.data.toList := by
 unfold conf_joined.f jnl
 rw [tl_eq]
 by_cases c : r.data.toList = []
 ·rw [if_pos c, if_pos c]; exact ⟨p, rfl, rfl⟩
 ·have hs : (r ++ (⟨#[46]⟩ : ByteArray)).size = r.size + 1 := by
   rw [ByteArray.size_append]; rfl
  rw [if_neg c, if_neg c, if_pos (by omega), if_pos (by omega)]
  refine ⟨_, rfl, ?_⟩
  simp [ByteArray.data_append]
theorem cut_none : ∀ {l : List UInt8}, (46 : UInt8) ∉ l → cutAll 46 l = [l]
 | [], _ => rfl
 | x :: l, h => by
  have h1 : x ≠ 46 := fun e => h (by rw [e]; exact List.mem_cons_self ..)
  have h2 : (46 : UInt8) ∉ l := fun e => h (List.mem_cons_of_mem _ e)
  rw [cutAll, if_neg h1, cut_none h2]; rfl
theorem cut_dot : ∀ {l : List UInt8} (r : List UInt8), (46 : UInt8) ∉ l → cutAll 46 (l ++ 46 :: r) = l :: cutAll 46 r
 | [], r, _ => by rw [List.nil_append, cutAll, if_pos rfl]
 | x :: l, r, h => by
  have h1 : x ≠ 46 := fun e => h (by rw [e]; exact List.mem_cons_self ..)
  have h2 : (46 : UInt8) ∉ l := fun e => h (List.mem_cons_of_mem _ e)
  rw [List.cons_append, cutAll, if_neg h1, cut_dot r h2]; rfl
/-- parts with dots between -/
def dots : List (List UInt8) → List UInt8
 | [] => []
 | [p] => p
 | p :: q :: ps => p ++ 46 :: dots (q :: ps)
theorem cut_dots : ∀ (p : List UInt8) (ps : List (List UInt8)), (∀ q ∈ p :: ps, (46 : UInt8) ∉ q) → cutAll 46 (dots (p :: ps)) = p :: ps
 | p, [], h => cut_none (h p (List.mem_cons_self ..))
 | p, q :: ps, h => by
  rw [dots, cut_dot _ (h p (List.mem_cons_self ..)), cut_dots q ps (fun x hx => h x (List.mem_cons_of_mem _ hx))]
theorem fold_dots : ∀ (ps : List (List UInt8)) (r : List UInt8), r ≠ [] → (∀ q ∈ ps, q ≠ []) → ps.foldl jnl r = dots (r :: ps)
 | [], r, _, _ => rfl
 | p :: ps, r, hr, h => by
  have hj : jnl r p = r ++ 46 :: p := if_neg hr
  rw [List.foldl_cons, hj, fold_dots ps _ (by simp) (fun q hq => h q (List.mem_cons_of_mem _ hq)), dots]
  cases ps with
  | nil => rfl
  | cons q ps => rw [dots, dots, List.append_assoc, List.cons_append]
theorem fold_dots0 (ps : List (List UInt8)) (h : ∀ q ∈ ps, q ≠ []) : ps.foldl jnl [] = dots ps := by
 cases ps with
 | nil => rfl
 | cons p ps =>
  have hj : jnl [] p = p := if_pos rfl
  rw [List.foldl_cons, hj]
  exact fold_dots ps p (h p (List.mem_cons_self ..)) (fun q hq => h q (List.mem_cons_of_mem _ hq))
/-! ### Numerals below 1000 -/
theorem dec3 (i : Nat) (h : i < 1000) : Lib.decDigits i = if i < 10 then [UInt8.ofNat (48 + i)] else if i < 100 then [UInt8.ofNat (48 + i / 10), UInt8.ofNat (48 + i % 10)] else [UInt8.ofNat (48 + i / 100), UInt8.ofNat (48 + i / 10 % 10), UInt8.ofNat (48 + i % 10)] := by
 by_cases h1 : i < 10
 ·rw [if_pos h1, Lib.decDigits_one h1]
 ·rw [if_neg h1]
  by_cases h2 : i < 100
  ·rw [if_pos h2, Lib.decDigits_two h1 h2]
  ·rw [if_neg h2, Lib.decDigits, dif_neg h1, Lib.decDigits_two (by omega) (by omega), show i / 10 / 10 = i / 100 by omega]; rfl
/-- what is asked of a numeral -/
def numOk (i : Nat) (l : List UInt8) : Bool := l.length ≤ 3 && l != [] && l.all (fun c => 48 ≤ c.toNat && c.toNat ≤ 57) && (l.head? != some 48 || l == [48]) && Lib.atoi l == some (i : Int)
theorem num_tab : ∀ i : Fin 1000, numOk i.val (if i.val < 10 then [UInt8.ofNat (48 + i.val)] else if i.val < 100 then [UInt8.ofNat (48 + i.val / 10), UInt8.ofNat (48 + i.val % 10)] else [UInt8.ofNat (48 + i.val / 100), UInt8.ofNat (48 + i.val / 10 % 10), UInt8.ofNat (48 + i.val % 10)]) = true := by decide +kernel
theorem num_ok (i : Nat) (h : i < 1000) : numOk i (Lib.itoa (i : Int)) = true := by
 rw [Lib.itoa_nonneg, dec3 i h]
 exact num_tab ⟨i, h⟩
end Go.Proofs.YtlofkjdcapbohaaGreatDoor.Pure
namespace Go.Proofs.YtlofkjdcapbohaaGreatDoor.Pure
open Go.RowKit Go.Proofs.YtlofkjdcapbohaaGreatDoor.PConfKeeps Go.Proofs.YtlofkjdcapbohaaGreatDoorW.PrintWords Go.Proofs.YtlofkjdcapbohaaGreatDoorW.PrintLast Go.Proofs.YtlofkjdcapbohaaGreatDoorW.PrintMore
set_option linter.unusedVariables false
set_option linter.unusedSimpArgs false
/-! ### Answers that come -/
/-- with enough rounds it comes to an answer, of which Q holds -/
def Tt {α : Type} (g : Nat → Option α) (Q : α → Prop) : Prop := ∃ r, Ev g r ∧ Q r
section
variable {α β : Type} {Q : α → Prop} {R : β → Prop}
theorem Tt.some {r : α} (h : Q r) : Tt (fun _ => Option.some r) Q := ⟨r, Ev.now r, h⟩
theorem Tt.ite {c : Prop} [Decidable c] {a b : Nat → Option α} (h1 : c → Tt a Q) (h2 : ¬ c → Tt b Q) : Tt (fun n => if c then a n else b n) Q := by
 by_cases h : c
 ·obtain ⟨r, hr, hq⟩ := h1 h
  exact ⟨r, Ev.congr (fun k => if_pos h) hr, hq⟩
 ·obtain ⟨r, hr, hq⟩ := h2 h
  exact ⟨r, Ev.congr (fun k => if_neg h) hr, hq⟩
theorem Tt.bind {g : Nat → Option α} {f : Nat → α → Option β} (h : Tt g Q) (k : ∀ a, Ev g a → Q a → Tt (fun n => f n a) R) : Tt (fun n => (g n).bind (f n)) R := by
 obtain ⟨a, ha, hq⟩ := h
 obtain ⟨r, hr, hr2⟩ := k a ha hq
 exact ⟨r, Ev.bind ha hr, hr2⟩
theorem Tt.step {g f : Nat → Option α} (h : ∀ k, g (k + 1) = f k) (k : Tt f Q) : Tt g Q := by
 obtain ⟨r, hr, hq⟩ := k
 exact ⟨r, Ev.step h hr, hq⟩
theorem Tt.mono {g : Nat → Option α} {Q' : α → Prop} (h : Tt g Q) (k : ∀ r, Q r → Q' r) : Tt g Q' := by
 obtain ⟨r, hr, hq⟩ := h
 exact ⟨r, hr, k r hq⟩
theorem Tt.all {g : Nat → Option α} (h : Tt g Q) : Tt g (fun _ => True) := h.mono fun _ _ => trivial
end
theorem w64 {n : Int} (h0 : -9223372036854775808 ≤ n) (h1 : n < 9223372036854775808) : wrap64 n = n := by unfold wrap64; omega
theorem w1 {i n : Nat} (h : i < n) (hn : n ≤ 4611686018427387904) : wrap64 ((i : Int) + 1) = ((i + 1 : Nat) : Int) := by rw [w64 (by omega) (by omega)]; omega
theorem tl_ne {s : ByteArray} (h : ¬ s.toList = ([] : List UInt8)) : 0 < s.size := by
 by_cases h0 : 0 < s.size
 ·exact h0
 ·exact absurd ((Lib.toList_data s).trans (List.eq_nil_of_length_eq_zero (by have := Lib.size_eq s; omega))) h
theorem w2 {i : Nat} (h : 0 < i) (hn : i ≤ 4611686018427387904) : wrap64 ((i : Int) - 1) = ((i - 1 : Nat) : Int) := by rw [w64 (by omega) (by omega)]; omega
/-! ### Values: trees -/
def Fits : Nat → S25 → Prop
 | 0, _ => False
 | n + 1, x => x.f3.size ≤ 140737488351232 ∧ x.f4.length ≤ 140737488351232 ∧ x.f5.length ≤ 140737488351232 ∧ (∀ a ∈ x.f5, a.size ≤ 140737488351232) ∧ ∀ a ∈ x.f4, Fits n a
theorem rd25_mem {l : List S25} {i : Nat} (h : i < l.length) : rd_T25 l (i : Int) ∈ l := by
 unfold rd_T25
 rw [Int.toNat_natCast, List.getD_eq_getElem?_getD, List.getElem?_eq_getElem h]
 exact List.getElem_mem h
theorem count_loop (l : List S25) (hl : l.length ≤ 140737488351232) (hall : ∀ x ∈ l, Tt (fun k => conf_count.f k x.f0 x.f1 x.f2 x.f3 x.f4 x.f5) (fun _ => True)) :
  ∀ d i : Nat, i + d = l.length → ∀ a : Int, Tt (fun k => conf_count.l0 k a l (l.length : Int) (i : Int)) (fun _ => True)
 | 0, i, h, a => Tt.step (f := fun _ => some a) (fun k => by rw [conf_count.l0, if_neg (by omega)]) (Tt.some trivial)
 | d + 1, i, h, a => by
  have ih := count_loop l hl hall d (i + 1) (by omega)
  rw [← w1 (show i < l.length by omega) (by omega)] at ih
  have hx := hall _ (rd25_mem (show i < l.length by omega))
  refine Tt.step (fun k => by rw [conf_count.l0]) ?_
  repeat' first
   | exact ih _
   | exact Tt.some trivial
   | refine Tt.bind hx (fun _ _ _ => ?_)
   | refine Tt.ite (fun _ => ?_) (fun _ => ?_)
   | (exfalso; omega)
theorem count_tt : ∀ n (x : S25), Fits n x → Tt (fun k => conf_count.f k x.f0 x.f1 x.f2 x.f3 x.f4 x.f5) (fun _ => True)
 | 0, _, h => h.elim
 | n + 1, x, h => Tt.step (f := fun k => conf_count.l0 k 1 x.f4 (x.f4.length : Int) 0) (fun k => by rw [conf_count.f]) (count_loop x.f4 h.2.1 (fun y hy => count_tt n y (h.2.2.2.2 y hy)) x.f4.length 0 (by omega) 1)
theorem levels_loop (l : List S25) (hl : l.length ≤ 140737488351232) (hall : ∀ x ∈ l, Tt (fun k => conf_levels.f k x.f0 x.f1 x.f2 x.f3 x.f4 x.f5) (fun _ => True)) :
  ∀ d i : Nat, i + d = l.length → ∀ a : Int, Tt (fun k => conf_levels.l0 k a l (l.length : Int) (i : Int)) (fun _ => True)
 | 0, i, h, a => Tt.step (f := fun _ => some (wrap64 (a + 1))) (fun k => by rw [conf_levels.l0, if_neg (by omega)]) (Tt.some trivial)
 | d + 1, i, h, a => by
  have ih := levels_loop l hl hall d (i + 1) (by omega)
  rw [← w1 (show i < l.length by omega) (by omega)] at ih
  have hx := hall _ (rd25_mem (show i < l.length by omega))
  refine Tt.step (fun k => by rw [conf_levels.l0]) ?_
  repeat' first
   | exact ih _
   | exact Tt.some trivial
   | refine Tt.bind hx (fun _ _ _ => ?_)
   | refine Tt.ite (fun _ => ?_) (fun _ => ?_)
   | (exfalso; omega)
theorem levels_tt : ∀ n (x : S25), Fits n x → Tt (fun k => conf_levels.f k x.f0 x.f1 x.f2 x.f3 x.f4 x.f5) (fun _ => True)
 | 0, _, h => h.elim
 | n + 1, x, h => Tt.step (f := fun k => conf_levels.l0 k 0 x.f4 (x.f4.length : Int) 0) (fun k => by rw [conf_levels.f]) (levels_loop x.f4 h.2.1 (fun y hy => levels_tt n y (h.2.2.2.2 y hy)) x.f4.length 0 (by omega) 0)
theorem unused_tt (a0 : Int) (a1 : Bool) (a2 : Int) (a3 : ByteArray) (l4 : List S25) (l5 : List ByteArray) : Tt (fun k => conf_unused.f k a0 a1 a2 a3 l4 l5) (fun _ => True) := by
 have j2 : ∀ x y z b s, Tt (fun k => conf_unused.j2 k x y z b a2 s l4 l5) (fun _ => True) := fun x y z b s => by
  refine Tt.step (fun k => by rw [conf_unused.j2]) ?_
  repeat' first
   | exact Tt.some trivial
   | refine Tt.ite (fun _ => ?_) (fun _ => ?_)
 have j1 : ∀ x y z b s, Tt (fun k => conf_unused.j1 k x y z b a2 s l4 l5) (fun _ => True) := fun x y z b s => by
  refine Tt.step (fun k => by rw [conf_unused.j1]) ?_
  repeat' first
   | exact Tt.some trivial
   | exact j2 _ _ _ _ _
   | refine Tt.ite (fun _ => ?_) (fun _ => ?_)
 have j0 : ∀ x y z b s, Tt (fun k => conf_unused.j0 k x y z b a2 s l4 l5) (fun _ => True) := fun x y z b s => by
  refine Tt.step (fun k => by rw [conf_unused.j0]) ?_
  repeat' first
   | exact Tt.some trivial
   | exact j1 _ _ _ _ _
   | refine Tt.ite (fun _ => ?_) (fun _ => ?_)
 unfold conf_unused.f
 exact Tt.ite (fun _ => j0 _ _ _ _ _) (fun _ => j0 _ _ _ _ _)
theorem badBytes_loop (s : ByteArray) (hs : s.size ≤ 4611686018427387904) : ∀ d i : Nat, i + d = s.size → Tt (fun k => conf_badBytes.l0 k s (i : Int)) (fun _ => True)
 | 0, i, h => Tt.step (f := fun _ => some false) (fun k => by rw [conf_badBytes.l0, if_neg (by omega)]) (Tt.some trivial)
 | d + 1, i, h => by
  have ih := badBytes_loop s hs d (i + 1) (by omega)
  rw [← w1 (show i < s.size by omega) hs] at ih
  refine Tt.step (fun k => by rw [conf_badBytes.l0]) ?_
  repeat' first
   | exact ih
   | exact Tt.some trivial
   | refine Tt.ite (fun _ => ?_) (fun _ => ?_)
   | (exfalso; omega)
theorem cSmall_tt (c : Int) : Tt (fun _ => conf_isSmall.f c) (fun _ => True) := by
 unfold conf_isSmall.f
 exact Tt.ite (fun _ => Tt.some trivial) (fun _ => Tt.some trivial)
theorem cDigit_tt (c : Int) : Tt (fun _ => conf_isDigit.f c) (fun _ => True) := by
 unfold conf_isDigit.f
 exact Tt.ite (fun _ => Tt.some trivial) (fun _ => Tt.some trivial)
theorem badDay_tt (c : Int) : Tt (fun _ => conf_badDay.f c) (fun _ => True) := by
 unfold conf_badDay.f
 exact Tt.ite (fun _ => Tt.some trivial) (fun _ => Tt.some trivial)
theorem key_loop (s : ByteArray) (hs : s.size ≤ 4611686018427387904) : ∀ d i : Nat, i + d = s.size → Tt (fun k => conf_isKey.l0 k s (i : Int)) (fun _ => True)
 | 0, i, h => Tt.step (f := fun _ => some true) (fun k => by rw [conf_isKey.l0, if_neg (by omega)]) (Tt.some trivial)
 | d + 1, i, h => by
  have ih := key_loop s hs d (i + 1) (by omega)
  rw [← w1 (show i < s.size by omega) hs] at ih
  refine Tt.step (fun k => by rw [conf_isKey.l0]) ?_
  repeat' first
   | exact ih
   | exact Tt.some trivial
   | refine Tt.bind (cSmall_tt _) (fun _ _ _ => ?_)
   | refine Tt.bind (cDigit_tt _) (fun _ _ _ => ?_)
   | refine Tt.ite (fun _ => ?_) (fun _ => ?_)
   | (exfalso; omega)
theorem key_tt (s : ByteArray) (hs : s.size ≤ 4611686018427387904) : Tt (fun k => conf_isKey.f k s) (fun _ => True) := by
 have jt : Tt (fun k => conf_isKey.j0 k s true) (fun _ => True) := Tt.step (f := fun _ => some false) (fun k => by rw [conf_isKey.j0, if_pos rfl]) (Tt.some trivial)
 unfold conf_isKey.f
 refine Tt.ite (fun _ => jt) (fun hne => Tt.ite (fun _ => jt) (fun _ => Tt.ite (fun _ => Tt.bind (cSmall_tt _) (fun b _ _ => ?_)) (fun h => ?_)))
 ·have hp := tl_ne hne
  have hl : Tt (fun k => conf_isKey.l0 k s 1) (fun _ => True) := key_loop s hs (s.size - 1) 1 (by omega)
  exact Tt.step (f := fun k => if (!b) = true then some false else conf_isKey.l0 k s 1) (fun k => by rw [conf_isKey.j0]) (Tt.ite (fun _ => Tt.some trivial) (fun _ => hl))
 ·have hp := tl_ne hne
  exfalso; omega
theorem value_loop (l5 : List ByteArray) (hl : l5.length ≤ 140737488351232) (hall : ∀ s ∈ l5, s.size ≤ 140737488351232) (a0 : Int) (a1 : Bool) (a2 : Int) (a3 : ByteArray) (l4 : List S25) :
  ∀ d i : Nat, i + d = l5.length → Tt (fun k => conf_valueFault.l0 k l5 (l5.length : Int) (i : Int) a0 a1 a2 a3 l4 l5) (fun _ => True)
 | 0, i, h => Tt.step (f := fun _ => some 0) (fun k => by rw [conf_valueFault.l0, if_neg (by omega)]) (Tt.some trivial)
 | d + 1, i, h => by
  have ih := value_loop l5 hl hall a0 a1 a2 a3 l4 d (i + 1) (by omega)
  rw [← w1 (show i < l5.length by omega) (by omega)] at ih
  have hk := key_tt (rdOf ByteArray.empty l5 (i : Int)) (by rw [rdOf_at (show i < l5.length by omega)]; have := hall _ (List.getElem_mem (show i < l5.length by omega)); omega)
  refine Tt.step (fun k => by rw [conf_valueFault.l0]) ?_
  by_cases hi : 0 < i
  ·rw [w2 hi (by omega)]
   repeat' first
    | exact ih
    | exact Tt.some trivial
    | refine Tt.bind hk (fun _ _ _ => ?_)
    | refine Tt.ite (fun _ => ?_) (fun _ => ?_)
    | (exfalso; omega)
  ·refine Tt.ite (fun _ => Tt.ite (fun _ => Tt.ite (fun _ => Tt.bind hk (fun _ _ _ => Tt.ite (fun _ => Tt.ite (fun h => absurd h (by omega)) (fun _ => ih)) (fun _ => Tt.some trivial))) (fun h => ?_)) (fun h => ?_)) (fun _ => Tt.some trivial)
   all_goals (exfalso; omega)
theorem value_tt (a0 : Int) (a1 : Bool) (a2 : Int) (a3 : ByteArray) (l4 : List S25) (l5 : List ByteArray) (hl : l5.length ≤ 140737488351232) (hall : ∀ s ∈ l5, s.size ≤ 140737488351232) : Tt (fun k => conf_valueFault.f k a0 a1 a2 a3 l4 l5) (fun _ => True) := by
 have hL : Tt (fun k => conf_valueFault.l0 k l5 (l5.length : Int) 0 a0 a1 a2 a3 l4 l5) (fun _ => True) := value_loop l5 hl hall a0 a1 a2 a3 l4 l5.length 0 (by omega)
 have j1 : ∀ b, Tt (fun k => conf_valueFault.j1 k b a0 a1 a2 a3 l4 l5) (fun _ => True) := fun b => by
  refine Tt.step (fun k => by rw [conf_valueFault.j1]) ?_
  refine Tt.ite (fun _ => Tt.some trivial) (fun _ => Tt.ite (fun _ => Tt.some trivial) (fun h5 => Tt.bind (badBytes_loop a3 (by omega) a3.size 0 (by omega)) (fun _ _ _ => Tt.ite (fun _ => Tt.some trivial) (fun _ => hL))))
 have j0 : ∀ b, Tt (fun k => conf_valueFault.j0 k b a0 a1 a2 a3 l4 l5) (fun _ => True) := fun b => by
  refine Tt.step (fun k => by rw [conf_valueFault.j0]) ?_
  exact Tt.ite (fun _ => Tt.some trivial) (fun _ => Tt.bind (unused_tt _ _ _ _ _ _) (fun _ _ _ => Tt.ite (fun _ => Tt.some trivial) (fun _ => Tt.ite (fun _ => Tt.bind (badDay_tt _) (fun _ _ _ => j1 _)) (fun _ => j1 _))))
 unfold conf_valueFault.f
 exact Tt.ite (fun _ => j0 _) (fun _ => j0 _)
theorem values_loop (l : List S25) (hl : l.length ≤ 140737488351232) (hall : ∀ x ∈ l, Tt (fun k => conf_valuesFault.f k x.f0 x.f1 x.f2 x.f3 x.f4 x.f5) (fun _ => True)) :
  ∀ d i : Nat, i + d = l.length → Tt (fun k => conf_valuesFault.l0 k l (l.length : Int) (i : Int)) (fun _ => True)
 | 0, i, h => Tt.step (f := fun _ => some 0) (fun k => by rw [conf_valuesFault.l0, if_neg (by omega)]) (Tt.some trivial)
 | d + 1, i, h => by
  have ih := values_loop l hl hall d (i + 1) (by omega)
  rw [← w1 (show i < l.length by omega) (by omega)] at ih
  have hx := hall _ (rd25_mem (show i < l.length by omega))
  refine Tt.step (fun k => by rw [conf_valuesFault.l0]) ?_
  repeat' first
   | exact ih
   | exact Tt.some trivial
   | refine Tt.bind hx (fun _ _ _ => ?_)
   | refine Tt.ite (fun _ => ?_) (fun _ => ?_)
   | (exfalso; omega)
theorem values_tt : ∀ n (x : S25), Fits n x → Tt (fun k => conf_valuesFault.f k x.f0 x.f1 x.f2 x.f3 x.f4 x.f5) (fun _ => True)
 | 0, _, h => h.elim
 | n + 1, x, h => Tt.step (f := fun k => (conf_valueFault.f k x.f0 x.f1 x.f2 x.f3 x.f4 x.f5).bind fun t => if t = 0 then conf_valuesFault.l0 k x.f4 (x.f4.length : Int) 0 else some t) (fun k => by rw [conf_valuesFault.f])
   (Tt.bind (value_tt _ _ _ _ _ _ h.2.2.1 h.2.2.2.1) (fun _ _ _ => Tt.ite (fun _ => values_loop x.f4 h.2.1 (fun y hy => values_tt n y (h.2.2.2.2 y hy)) x.f4.length 0 (by omega)) (fun _ => Tt.some trivial)))
theorem check_tt (n : Nat) (x : S25) (hx : Fits n x) : Tt (fun k => conf_Check.f k x.f0 x.f1 x.f2 x.f3 x.f4 x.f5) (fun _ => True) := by
 unfold conf_Check.f
 exact Tt.bind (count_tt n x hx) (fun _ _ _ => Tt.ite (fun _ => Tt.some trivial) (fun _ => Tt.bind (levels_tt n x hx) (fun _ _ _ => Tt.ite (fun _ => Tt.some trivial) (fun _ => Tt.bind (values_tt n x hx) (fun _ _ _ => Tt.some trivial)))))
end Go.Proofs.YtlofkjdcapbohaaGreatDoor.Pure
namespace Go.Proofs.YtlofkjdcapbohaaGreatDoor.Pure
open Go.RowKit Go.Proofs.YtlofkjdcapbohaaGreatDoor.PConfKeeps Go.Proofs.YtlofkjdcapbohaaGreatDoorW.PrintWords Go.Proofs.YtlofkjdcapbohaaGreatDoorW.PrintLast Go.Proofs.YtlofkjdcapbohaaGreatDoorW.PrintMore
set_option linter.unusedVariables false
set_option linter.unusedSimpArgs false
/-- how many values, so many levels deep -/
def nds : Nat → S25 → Nat
 | 0, _ => 0
 | n + 1, x => 1 + (x.f4.map (nds n)).sum
/-- at most so deep -/
def Dp : Nat → S25 → Prop
 | 0, _ => False
 | n + 1, x => ∀ a ∈ x.f4, Dp n a
theorem rd25_at {l : List S25} {i : Nat} (h : i < l.length) : rd_T25 l (i : Int) = l[i] := by
 unfold rd_T25
 rw [Int.toNat_natCast, List.getD_eq_getElem?_getD, List.getElem?_eq_getElem h]; rfl
abbrev cntF (k : Nat) (x : S25) := conf_count.f k x.f0 x.f1 x.f2 x.f3 x.f4 x.f5
abbrev lvF (k : Nat) (x : S25) := conf_levels.f k x.f0 x.f1 x.f2 x.f3 x.f4 x.f5
abbrev vsF (k : Nat) (x : S25) := conf_valuesFault.f k x.f0 x.f1 x.f2 x.f3 x.f4 x.f5
theorem count_lv (n : Nat) (hn : n ≤ 4194304) (l : List S25) (hl : l.length ≤ 140737488351232) (hall : ∀ x ∈ l, ∀ k c, cntF k x = some c → 1 ≤ c ∧ c ≤ 1001 * (n : Int) ∧ (c ≤ 1000 → c = (nds n x : Int))) :
  ∀ (d i : Nat), i + d = l.length → ∀ (k : Nat) (a c : Int), 1 ≤ a → a ≤ 1000 + 1001 * (n : Int) → conf_count.l0 k a l (l.length : Int) (i : Int) = some c →
   a ≤ c ∧ c ≤ 1000 + 1001 * (n : Int) ∧ (c ≤ 1000 → c = a + (((l.drop i).map (nds n)).sum : Nat)) := by
 intro d
 induction d with
 | zero =>
  intro i hi k a c h1 h2 h
  cases k with
  | zero => rw [conf_count.l0] at h; cases h
  | succ k =>
   rw [conf_count.l0, if_neg (by omega)] at h
   injection h with h
   subst h
   rw [List.drop_eq_nil_of_le (by omega)]
   simp; omega
 | succ d ih =>
  intro i hi k a c h1 h2 h
  have hlt : i < l.length := by omega
  cases k with
  | zero => rw [conf_count.l0] at h; cases h
  | succ k =>
   rw [conf_count.l0, if_pos (by omega), if_pos (by omega), if_pos (by omega)] at h
   by_cases h3 : a > 1000
   ·rw [if_pos h3] at h
    injection h with h
    subst h
    exact ⟨by omega, h2, fun h_ => by omega⟩
   ·rw [if_neg h3] at h
    obtain ⟨t, ht, h⟩ := Option.bind_eq_some_iff.1 h
    rw [rd25_at hlt] at ht
    obtain ⟨t1, t2, t3⟩ := hall _ (List.getElem_mem hlt) _ _ ht
    rw [w64 (by omega) (by omega), w1 hlt (by omega)] at h
    obtain ⟨r1, r2, r3⟩ := ih (i + 1) (by omega) k (a + t) c (by omega) (by omega) h
    refine ⟨by omega, r2, fun hc => ?_⟩
    have e1 := r3 hc
    have e2 := t3 (by omega)
    rw [List.drop_eq_getElem_cons hlt, List.map_cons, List.sum_cons]
    omega
theorem count_v : ∀ (n : Nat), n ≤ 4194304 → ∀ x, Fits n x → ∀ k c, cntF k x = some c → 1 ≤ c ∧ c ≤ 1001 * (n : Int) ∧ (c ≤ 1000 → c = (nds n x : Int))
 | 0, _, x, h, _, _, _ => h.elim
 | n + 1, hn, x, hx, k, c, h => by
  cases k with
  | zero => rw [cntF, conf_count.f] at h; cases h
  | succ k =>
   rw [cntF, conf_count.f] at h
   obtain ⟨h1, h2, h3⟩ := count_lv n (by omega) x.f4 hx.2.1 (fun y hy => count_v n (by omega) y (hx.2.2.2.2 y hy)) x.f4.length 0 (by omega) k 1 c (by omega) (by omega) h
   refine ⟨h1, by omega, fun hc => ?_⟩
   rw [h3 hc, List.drop_zero, nds]
   omega
theorem levels_lv (n : Nat) (hn : n ≤ 4194304) (l : List S25) (hl : l.length ≤ 140737488351232) (hall : ∀ x ∈ l, ∀ k r, lvF k x = some r → 1 ≤ r ∧ r ≤ (n : Int) ∧ ∀ m : Nat, r ≤ (m : Int) → Dp m x) :
  ∀ (d i : Nat), i + d = l.length → ∀ (k : Nat) (a c : Int), 0 ≤ a → a ≤ (n : Int) → conf_levels.l0 k a l (l.length : Int) (i : Int) = some c →
   a + 1 ≤ c ∧ c ≤ (n : Int) + 1 ∧ ∀ m : Nat, c ≤ (m : Int) + 1 → ∀ y ∈ l.drop i, Dp m y := by
 intro d
 induction d with
 | zero =>
  intro i hi k a c h1 h2 h
  cases k with
  | zero => rw [conf_levels.l0] at h; cases h
  | succ k =>
   rw [conf_levels.l0, if_neg (by omega), w64 (by omega) (by omega)] at h
   injection h with h
   subst h
   rw [List.drop_eq_nil_of_le (by omega)]
   exact ⟨by omega, by omega, fun m hm y hy => by cases hy⟩
 | succ d ih =>
  intro i hi k a c h1 h2 h
  have hlt : i < l.length := by omega
  cases k with
  | zero => rw [conf_levels.l0] at h; cases h
  | succ k =>
   rw [conf_levels.l0, if_pos (by omega), if_pos (by omega), if_pos (by omega)] at h
   obtain ⟨t, ht, h⟩ := Option.bind_eq_some_iff.1 h
   rw [rd25_at hlt] at ht
   obtain ⟨t1, t2, t3⟩ := hall _ (List.getElem_mem hlt) _ _ ht
   have hm : mx a t = if a < t then t else a := by unfold mx; split <;> (try split) <;> omega
   rw [w1 hlt (by omega), hm] at h
   obtain ⟨r1, r2, r3⟩ := ih (i + 1) (by omega) k _ c (by split <;> omega) (by split <;> omega) h
   refine ⟨by split at r1 <;> omega, r2, fun m hc y hy => ?_⟩
   rw [List.drop_eq_getElem_cons hlt] at hy
   rcases List.mem_cons.1 hy with rfl | hy
   ·exact t3 m (by split at r1 <;> omega)
   ·exact r3 m hc y hy
theorem levels_v : ∀ (n : Nat), n ≤ 4194304 → ∀ x, Fits n x → ∀ k r, lvF k x = some r → 1 ≤ r ∧ r ≤ (n : Int) ∧ ∀ m : Nat, r ≤ (m : Int) → Dp m x
 | 0, _, x, h, _, _, _ => h.elim
 | n + 1, hn, x, hx, k, c, h => by
  cases k with
  | zero => rw [lvF, conf_levels.f] at h; cases h
  | succ k =>
   rw [lvF, conf_levels.f] at h
   obtain ⟨h1, h2, h3⟩ := levels_lv n (by omega) x.f4 hx.2.1 (fun y hy => levels_v n (by omega) y (hx.2.2.2.2 y hy)) x.f4.length 0 (by omega) k 0 c (by omega) (by omega) h
   refine ⟨by omega, by omega, fun m hm => ?_⟩
   obtain ⟨m, rfl⟩ : ∃ q, m = q + 1 := ⟨m - 1, by omega⟩
   intro a ha
   exact h3 m (by omega) a (by rw [List.drop_zero]; exact ha)
/-! ### A value by itself -/
structure NodeOk (x : S25) : Prop where
 it : x.f4 ≠ [] → x.f0 = 5 ∨ x.f0 = 6
 ln : x.f0 = 6 → x.f5.length = x.f4.length
 k6 : x.f5 ≠ [] → x.f0 = 6
 ky : ∀ s ∈ x.f5, ∃ k, conf_isKey.f k s = some true
 so : Srt x.f5
theorem unused_v {k : Nat} {a0 : Int} {a1 : Bool} {a2 : Int} {a3 : ByteArray} {l4 : List S25} {l5 : List ByteArray} (h : conf_unused.f k a0 a1 a2 a3 l4 l5 = some false) : (l4 ≠ [] → a0 = 5 ∨ a0 = 6) ∧ (a0 = 6 → l5.length = l4.length) ∧ (l5 ≠ [] → a0 = 6) := by
 have j2 : ∀ {k x y z s}, conf_unused.j2 k a0 x y z a2 s l4 l5 = some false → x = false ∧ (a0 = 6 → l5.length = l4.length) ∧ (l5 ≠ [] → a0 = 6) := by
  intro k x y z s h
  cases k with
  | zero => rw [conf_unused.j2] at h; cases h
  | succ k =>
   rw [conf_unused.j2] at h
   split at h
   ·cases h
   ·rename_i hx
    refine ⟨by simpa using hx, ?_⟩
    by_cases h6 : a0 = 6
    ·rw [if_pos h6, if_pos h6, ite_self] at h
     injection h with h
     have h2 : (l5.length : Int) = (l4.length : Int) := by simpa using h
     exact ⟨fun _ => by omega, fun _ => h6⟩
    ·rw [if_neg h6, if_neg h6] at h
     split at h
     ·cases h
     ·rename_i hl
      exact ⟨fun h_ => absurd h_ h6, fun hne => absurd (List.eq_nil_of_length_eq_zero (by omega)) hne⟩
 have j1 : ∀ {k x y z s}, conf_unused.j1 k a0 x y z a2 s l4 l5 = some false → (l4 ≠ [] → a0 = 5 ∨ a0 = 6) ∧ (a0 = 6 → l5.length = l4.length) ∧ (l5 ≠ [] → a0 = 6) := by
  intro k x y z s h
  cases k with
  | zero => rw [conf_unused.j1] at h; cases h
  | succ k =>
   rw [conf_unused.j1] at h
   split at h
   ·cases h
   ·split at h
    ·split at h
     ·rename_i h5
      exact ⟨fun _ => .inl h5, (j2 h).2⟩
     ·obtain ⟨q, h2⟩ := j2 h
      exact ⟨fun _ => .inr (by simpa using q), h2⟩
    ·rename_i hl
     exact ⟨fun hne => absurd (List.eq_nil_of_length_eq_zero (by omega)) hne, (j2 h).2⟩
 have j0 : ∀ {k x y z s}, conf_unused.j0 k a0 x y z a2 s l4 l5 = some false → (l4 ≠ [] → a0 = 5 ∨ a0 = 6) ∧ (a0 = 6 → l5.length = l4.length) ∧ (l5 ≠ [] → a0 = 6) := by
  intro k x y z s h
  cases k with
  | zero => rw [conf_unused.j0] at h; cases h
  | succ k =>
   rw [conf_unused.j0] at h
   repeat' split at h
   all_goals exact j1 h
 unfold conf_unused.f at h
 split at h
 ·exact j0 h
 ·exact j0 h
theorem keys_v (l5 : List ByteArray) (hl : l5.length ≤ 140737488351232) (a0 : Int) (a1 : Bool) (a2 : Int) (a3 : ByteArray) (l4 : List S25) :
  ∀ (d i : Nat), i + d = l5.length → ∀ k, conf_valueFault.l0 k l5 (l5.length : Int) (i : Int) a0 a1 a2 a3 l4 l5 = some 0 →
   ∀ j (hj : j < l5.length), i ≤ j → (∃ k, conf_isKey.f k l5[j] = some true) ∧ (∀ (hp : 0 < j), Op.bytesLess (l5[j - 1]).toList (l5[j]).toList = true) := by
 intro d
 induction d with
 | zero => intro i hi k h j hj hij; omega
 | succ d ih =>
  intro i hi k h j hj hij
  have hlt : i < l5.length := by omega
  cases k with
  | zero => rw [conf_valueFault.l0] at h; cases h
  | succ k =>
   rw [conf_valueFault.l0, if_pos (by omega), if_pos (by omega), if_pos (by omega), rdOf_at hlt, w1 hlt (by omega)] at h
   obtain ⟨t, ht, h⟩ := Option.bind_eq_some_iff.1 h
   cases t with
   | false => rw [if_neg (by decide)] at h; cases h
   | true =>
    rw [if_pos rfl] at h
    by_cases hp : 0 < i
    ·rw [w2 hp (by omega), if_pos (by omega), if_pos (by omega), if_pos (by omega), rdOf_at (show i - 1 < l5.length by omega)] at h
     by_cases hb : Op.bytesLess (l5[i - 1]).toList (l5[i]).toList = true
     ·rw [if_pos hb] at h
      rcases Nat.eq_or_lt_of_le hij with rfl | hlt2
      ·exact ⟨⟨_, ht⟩, fun _ => hb⟩
      ·exact ih (i + 1) (by omega) k h j hj hlt2
     ·rw [if_neg hb] at h; cases h
    ·rw [if_neg (by omega)] at h
     rcases Nat.eq_or_lt_of_le hij with rfl | hlt2
     ·exact ⟨⟨_, ht⟩, fun h_ => absurd h_ hp⟩
     ·exact ih (i + 1) (by omega) k h j hj hlt2
theorem srt_of (l : List ByteArray) (h : ∀ j (hj : j < l.length) (hp : 0 < j), Op.bytesLess (l[j - 1]).toList (l[j]).toList = true) : Srt l := by
 refine List.pairwise_iff_getElem.2 ?_
 intro i j hi hj hij
 obtain ⟨d, rfl⟩ : ∃ d, j = i + d + 1 := ⟨j - i - 1, by omega⟩
 clear hij
 induction d with
 | zero =>
  have := h (i + 0 + 1) hj (by omega)
  simpa using this
 | succ d ih =>
  have h1 := sl_lt.1 (ih (by omega))
  have h2 : (l[i + d + 1]'(by omega)).toList < (l[i + (d + 1) + 1]).toList := sl_lt.1 (h (i + (d + 1) + 1) hj (by omega))
  exact sl_lt.2 (List.lt_trans h1 h2)
theorem value_v {k : Nat} {x : S25} (hl : x.f5.length ≤ 140737488351232) (h : conf_valueFault.f k x.f0 x.f1 x.f2 x.f3 x.f4 x.f5 = some 0) : NodeOk x := by
 have l0 : ∀ {k}, conf_valueFault.l0 k x.f5 (x.f5.length : Int) 0 x.f0 x.f1 x.f2 x.f3 x.f4 x.f5 = some 0 → (∀ s ∈ x.f5, ∃ k, conf_isKey.f k s = some true) ∧ Srt x.f5 := by
  intro k h
  have hk := keys_v x.f5 hl x.f0 x.f1 x.f2 x.f3 x.f4 x.f5.length 0 (by omega) k h
  refine ⟨fun s hs => ?_, srt_of _ (fun j hj hp => (hk j hj (by omega)).2 hp)⟩
  obtain ⟨j, hj, rfl⟩ := List.getElem_of_mem hs
  exact (hk j hj (by omega)).1
 have j1 : ∀ {k b}, conf_valueFault.j1 k b x.f0 x.f1 x.f2 x.f3 x.f4 x.f5 = some 0 → (∀ s ∈ x.f5, ∃ k, conf_isKey.f k s = some true) ∧ Srt x.f5 := by
  intro k b h
  cases k with
  | zero => rw [conf_valueFault.j1] at h; cases h
  | succ k =>
   rw [conf_valueFault.j1] at h
   split at h
   ·cases h
   ·split at h
    ·cases h
    ·obtain ⟨t, _, h⟩ := Option.bind_eq_some_iff.1 h
     split at h
     ·cases h
     ·exact l0 h
 have j0 : ∀ {k b}, conf_valueFault.j0 k b x.f0 x.f1 x.f2 x.f3 x.f4 x.f5 = some 0 → NodeOk x := by
  intro k b h
  cases k with
  | zero => rw [conf_valueFault.j0] at h; cases h
  | succ k =>
   rw [conf_valueFault.j0] at h
   split at h
   ·cases h
   ·obtain ⟨u, hu, h⟩ := Option.bind_eq_some_iff.1 h
    cases u with
    | true => rw [if_pos rfl] at h; cases h
    | false =>
     rw [if_neg (by decide)] at h
     obtain ⟨u1, u2, u3⟩ := unused_v hu
     have hk : (∀ s ∈ x.f5, ∃ k, conf_isKey.f k s = some true) ∧ Srt x.f5 := by
      split at h
      ·obtain ⟨t, _, h⟩ := Option.bind_eq_some_iff.1 h
       exact j1 h
      ·exact j1 h
     exact ⟨u1, u2, u3, hk.1, hk.2⟩
 unfold conf_valueFault.f at h
 split at h
 ·exact j0 h
 ·exact j0 h
/-! ### Values that Check lets pass -/
def Good : Nat → S25 → Prop
 | 0, _ => False
 | n + 1, x => NodeOk x ∧ x.f4.length ≤ 1000 ∧ ∀ a ∈ x.f4, Good n a
theorem sum_mem {α : Type} (f : α → Nat) : ∀ (l : List α) (a : α), a ∈ l → f a ≤ (l.map f).sum
 | b :: l, a, h => by
  rw [List.map_cons, List.sum_cons]
  rcases List.mem_cons.1 h with rfl | h
  ·omega
  ·have := sum_mem f l a h; omega
theorem nds_pos : ∀ (n : Nat) (x : S25), Fits n x → 1 ≤ nds n x
 | 0, _, h => h.elim
 | n + 1, x, _ => by rw [nds]; omega
theorem sum_len {α : Type} (f : α → Nat) : ∀ (l : List α), (∀ a ∈ l, 1 ≤ f a) → l.length ≤ (l.map f).sum
 | [], _ => by simp
 | b :: l, h => by
  rw [List.map_cons, List.sum_cons, List.length_cons]
  have := sum_len f l (fun a ha => h a (List.mem_cons_of_mem _ ha))
  have := h b (List.mem_cons_self ..)
  omega
theorem values_lv (l : List S25) (hl : l.length ≤ 140737488351232) : ∀ (d i : Nat), i + d = l.length → ∀ k, conf_valuesFault.l0 k l (l.length : Int) (i : Int) = some 0 → ∀ j (hj : j < l.length), i ≤ j → ∃ k', vsF k' l[j] = some 0 := by
 intro d
 induction d with
 | zero => intro i hi k h j hj hij; omega
 | succ d ih =>
  intro i hi k h j hj hij
  have hlt : i < l.length := by omega
  cases k with
  | zero => rw [conf_valuesFault.l0] at h; cases h
  | succ k =>
   rw [conf_valuesFault.l0, if_pos (by omega), if_pos (by omega), if_pos (by omega), rd25_at hlt, w1 hlt (by omega)] at h
   obtain ⟨t, ht, h⟩ := Option.bind_eq_some_iff.1 h
   split at h
   ·rename_i h0
    subst h0
    rcases Nat.eq_or_lt_of_le hij with rfl | hlt2
    ·exact ⟨_, ht⟩
    ·exact ih (i + 1) (by omega) k h j hj hlt2
   ·rename_i h0
    injection h with h
    exact absurd h h0
theorem values_v : ∀ (m n : Nat) (x : S25), Fits n x → Dp m x → nds n x ≤ 1000 → ∀ k, vsF k x = some 0 → Good m x
 | 0, _, _, _, h, _, _, _ => h.elim
 | _ + 1, 0, _, h, _, _, _, _ => h.elim
 | m + 1, n + 1, x, hx, hd, hc, k, h => by
  rw [nds] at hc
  cases k with
  | zero => rw [vsF, conf_valuesFault.f] at h; cases h
  | succ k =>
   rw [vsF, conf_valuesFault.f] at h
   obtain ⟨t, ht, h⟩ := Option.bind_eq_some_iff.1 h
   split at h
   ·rename_i h0
    subst h0
    have hl := sum_len (nds n) x.f4 (fun a ha => nds_pos n a (hx.2.2.2.2 a ha))
    refine ⟨value_v hx.2.2.1 ht, by omega, fun a ha => ?_⟩
    obtain ⟨j, hj, rfl⟩ := List.getElem_of_mem ha
    obtain ⟨k', hk'⟩ := values_lv x.f4 hx.2.1 x.f4.length 0 (by omega) k h j hj (by omega)
    have := sum_mem (nds n) x.f4 _ ha
    exact values_v m n _ (hx.2.2.2.2 _ ha) (hd _ ha) (by omega) k' hk'
   ·rename_i h0
    injection h with h
    exact absurd h h0
/-- what Check lets pass -/
theorem check_v {n : Nat} (hn : n ≤ 4194304) {x : S25} (hx : Fits n x) {k : Nat} (h : Fck k x = some 0) : Good 8 x ∧ nds n x ≤ 1000 := by
 unfold Fck conf_Check.f at h
 obtain ⟨c, hc, h⟩ := Option.bind_eq_some_iff.1 h
 split at h
 ·cases h
 rename_i c1
 obtain ⟨r, hr, h⟩ := Option.bind_eq_some_iff.1 h
 split at h
 ·cases h
 rename_i r1
 obtain ⟨e, he, h⟩ := Option.bind_eq_some_iff.1 h
 injection h with h
 subst h
 have q1 := (count_v n hn x hx k c hc).2.2 (by omega)
 have q2 := (levels_v n hn x hx k r hr).2.2 8 (by omega)
 exact ⟨values_v 8 n x hx q2 (by omega) k he, by omega⟩
theorem check_tot {n : Nat} {x : S25} (hx : Fits n x) : Tt (fun k => Fck k x) (fun _ => True) := check_tt n x hx
end Go.Proofs.YtlofkjdcapbohaaGreatDoor.Pure
namespace Go.Proofs.YtlofkjdcapbohaaGreatDoor.Pure
open Go.RowKit Go.Proofs.YtlofkjdcapbohaaGreatDoor.PConfKeeps Go.Proofs.YtlofkjdcapbohaaGreatDoorW.PrintWords Go.Proofs.YtlofkjdcapbohaaGreatDoorW.PrintLast Go.Proofs.YtlofkjdcapbohaaGreatDoorW.PrintMore
set_option linter.unusedVariables false
set_option linter.unusedSimpArgs false
theorem fits_mono : ∀ (n m : Nat) (x : S25), n ≤ m → Fits n x → Fits m x
 | 0, _, _, _, h => h.elim
 | n + 1, 0, _, hm, _ => by omega
 | n + 1, m + 1, x, hm, h => ⟨h.1, h.2.1, h.2.2.1, h.2.2.2.1, fun a ha => fits_mono n m a (by omega) (h.2.2.2.2 a ha)⟩
theorem fits_pos {n : Nat} {x : S25} (h : Fits n x) : 1 ≤ n := by
 cases n with
 | zero => exact h.elim
 | succ n => omega
/-- good at some depth -/
def Gd (x : S25) : Prop := ∃ m, Good m x
theorem Gd.node {x : S25} (h : Gd x) : NodeOk x ∧ x.f4.length ≤ 1000 := by
 obtain ⟨m, h⟩ := h
 cases m with
 | zero => exact h.elim
 | succ m => exact ⟨h.1, h.2.1⟩
theorem Gd.keys {x : S25} (h : Gd x) : x.f5.length ≤ 1000 := by
 have hn := h.node
 by_cases c : x.f5 = []
 ·rw [c]; exact Nat.zero_le _
 ·rw [hn.1.ln (hn.1.k6 c)]; exact hn.2
theorem eta25 (x : S25) : (⟨x.f0, x.f1, x.f2, x.f3, x.f4, x.f5⟩ : S25) = x := by cases x; rfl
/-! ### clone -/
abbrev clF (k : Nat) (x : S25) := conf_clone.f k x.f0 x.f1 x.f2 x.f3 x.f4 x.f5
theorem clone_lv (l : List S25) (hl : l.length ≤ 1000000) (a0 : Int) (a1 : Bool) (a2 : Int) (a3 : ByteArray) (l4 : List S25) (l5 : List ByteArray) (hall : ∀ x ∈ l, Ev (fun k => clF k x) (x.f0, x.f1, x.f2, x.f3, x.f4, x.f5)) :
  ∀ (d i : Nat), i + d = l.length → Ev (fun k => conf_clone.l0 k (l.take i) l (l.length : Int) (i : Int) a0 a1 a2 a3 l4 l5) (a0, a1, a2, a3, l, l5)
 | 0, i, h => Ev.step (f := fun _ => some (a0, a1, a2, a3, l, l5)) (fun k => by rw [conf_clone.l0, if_neg (by omega), List.take_of_length_le (by omega)]) (Ev.now _)
 | d + 1, i, h => by
  have hlt : i < l.length := by omega
  have ih := clone_lv l hl a0 a1 a2 a3 l4 l5 hall d (i + 1) (by omega)
  refine Ev.step (fun k => by rw [conf_clone.l0, if_pos (by omega), if_pos (by omega), if_pos (by omega), rd25_at hlt, w1 hlt (by omega)]) ?_
  refine Ev.bind (hall _ (List.getElem_mem hlt)) ?_
  rw [List.take_succ_eq_append_getElem hlt] at ih
  refine Ev.congr (f := fun k => conf_clone.l0 k (l.take i ++ [l[i]]) l (l.length : Int) ((i + 1 : Nat) : Int) a0 a1 a2 a3 l4 l5) (fun k => ?_) ih
  rw [if_pos (by rw [List.length_take]; omega)]
  dsimp only
  rw [eta25]
theorem clone_ev : ∀ (m : Nat) (x : S25), Good m x → Ev (fun k => clF k x) (x.f0, x.f1, x.f2, x.f3, x.f4, x.f5)
 | 0, _, h => h.elim
 | m + 1, x, h => by
  have hk := Gd.keys ⟨m + 1, h⟩
  refine Ev.step (f := fun k => conf_clone.l0 k [] x.f4 (x.f4.length : Int) 0 x.f0 x.f1 x.f2 x.f3 x.f4 x.f5) (fun k => by rw [clF, conf_clone.f, if_pos (by rw [List.length_nil]; omega), List.nil_append]) ?_
  exact clone_lv x.f4 (by have := h.2.1; omega) _ _ _ _ _ _ (fun a ha => clone_ev m a (h.2.2 a ha)) x.f4.length 0 (by omega)
theorem fcl_ev {x : S25} (h : Gd x) : Ev (fun k => Fcl k x) x := by
 obtain ⟨m, h⟩ := h
 unfold Fcl
 exact Ev.bind (clone_ev m x h) (Ev.congr (f := fun _ => some x) (fun k => by dsimp only; rw [eta25]) (Ev.now x))
/-! ### steps -/
theorem bt_nat {s : ByteArray} {i : Nat} (h : i < s.size) : bt s (i : Int) = (((s.data.toList[i]'(by rw [← Lib.size_eq]; exact h)).toNat : Nat) : Int) := by
 unfold bt
 rw [dif_pos (show ((i : Int)).toNat < s.size by simpa using h)]
 congr 1
theorem isDigit_eq (c : Int) (h : 0 ≤ c) : conf_isDigit.f c = some (decide (48 ≤ c ∧ c ≤ 57)) := by
 unfold conf_isDigit.f
 by_cases c1 : c ≥ 48
 ·rw [if_pos c1]
  by_cases c2 : c ≤ 57 <;> simp [c1, c2]
 ·rw [if_neg c1]
  simp; intro h_; omega
theorem int_lv (s : ByteArray) (hs : s.size ≤ 1000) : ∀ (d i : Nat), i + d = s.size → Ev (fun k => conf_isInteger.l0 k s (i : Int)) ((s.data.toList.drop i).all (fun c => 48 ≤ c.toNat && c.toNat ≤ 57))
 | 0, i, h => Ev.step (f := fun _ => some _) (fun k => by rw [conf_isInteger.l0, if_neg (by omega), List.drop_eq_nil_of_le (by rw [← Lib.size_eq]; omega)]; rfl) (Ev.now _)
 | d + 1, i, h => by
  have hlt : i < s.size := by omega
  have hl : i < s.data.toList.length := by rw [← Lib.size_eq]; exact hlt
  have ih := int_lv s hs d (i + 1) (by omega)
  refine Ev.step (fun k => by rw [conf_isInteger.l0, if_pos (by omega), if_pos (by omega), bt_nat hlt, isDigit_eq _ (by omega), Option.bind_some, w1 hlt (by omega)]) ?_
  rw [List.drop_eq_getElem_cons hl, List.all_cons]
  by_cases c : 48 ≤ (s.data.toList[i]'hl).toNat ∧ (s.data.toList[i]'hl).toNat ≤ 57
  ·have e : decide ((48 : Int) ≤ (((s.data.toList[i]'hl).toNat : Nat) : Int) ∧ (((s.data.toList[i]'hl).toNat : Nat) : Int) ≤ 57) = true := decide_eq_true (by omega)
   have e2 : (decide (48 ≤ (s.data.toList[i]'hl).toNat) && decide ((s.data.toList[i]'hl).toNat ≤ 57)) = true := by rw [decide_eq_true c.1, decide_eq_true c.2]; rfl
   rw [e, e2, Bool.true_and]
   simp only [if_true]
   exact ih
  ·have e : decide ((48 : Int) ≤ (((s.data.toList[i]'hl).toNat : Nat) : Int) ∧ (((s.data.toList[i]'hl).toNat : Nat) : Int) ≤ 57) = false := decide_eq_false (by omega)
   have e2 : (decide (48 ≤ (s.data.toList[i]'hl).toNat) && decide ((s.data.toList[i]'hl).toNat ≤ 57)) = false := by
    by_cases c1 : 48 ≤ (s.data.toList[i]'hl).toNat
    ·have c2 : ¬ (s.data.toList[i]'hl).toNat ≤ 57 := fun h_ => c ⟨c1, h_⟩
     rw [decide_eq_false c2, Bool.and_false]
    ·rw [decide_eq_false c1, Bool.false_and]
   rw [e, e2, Bool.false_and]
   exact Ev.now _
/-- isInteger of a string that begins with no '-' -/
theorem int_ev (s : ByteArray) (hs : s.size ≤ 1000) (h0 : 0 < s.size) (h1 : bt s 0 ≠ 45) : Ev (fun k => conf_isInteger.f k s) (s.data.toList.all (fun c => 48 ≤ c.toNat && c.toNat ≤ 57)) := by
 have hl : 0 < s.data.toList.length := by rw [← Lib.size_eq]; exact h0
 have hp : stringslite_HasPrefix.f s (⟨#[45]⟩ : ByteArray) = some false := by
  have e1 : ((⟨#[45]⟩ : ByteArray).size : Int) = 1 := rfl
  unfold stringslite_HasPrefix.f
  rw [e1, if_pos (by omega), if_pos (by omega), if_pos (by omega)]
  congr 1
  apply beq_eq_false_iff_ne.2
  intro he
  rw [tl_eq, tl_eq] at he
  have e2 : (s.extract 0 (1 : Int).toNat).data.toList = s.data.toList.take 1 := Lib.extract_from_zero s 1
  rw [e2] at he
  apply h1
  have hb := bt_nat h0
  rw [show (((0 : Nat)) : Int) = 0 from rfl] at hb
  rw [hb]
  obtain ⟨a, r, hq⟩ : ∃ a r, s.data.toList = a :: r := by
   cases hq : s.data.toList with
   | nil => rw [hq] at hl; exact absurd hl (by simp)
   | cons a r => exact ⟨a, r, rfl⟩
  have e4 : s.data.toList[0]'hl = a := (List.getElem?_eq_some_iff.1 (show s.data.toList[0]? = some a by rw [hq]; rfl)).2
  rw [hq] at he
  have e5 : a = 45 := List.head_eq_of_cons_eq he
  rw [e4, e5]; rfl
 have ht : strings_TrimPrefix.f s (⟨#[45]⟩ : ByteArray) = some s := by
  unfold strings_TrimPrefix.f stringslite_TrimPrefix.f
  rw [hp]; rfl
 have hne : ¬ s.toList = ([] : List UInt8) := by
  rw [tl_eq]; intro h; rw [h] at hl; exact absurd hl (by simp)
 unfold conf_isInteger.f
 rw [ht]
 simp only [Option.bind_some, if_neg hne]
 exact int_lv s hs s.size 0 (by omega)
end Go.Proofs.YtlofkjdcapbohaaGreatDoor.Pure
namespace Go.Proofs.YtlofkjdcapbohaaGreatDoor.Pure
open Go.RowKit Go.Proofs.YtlofkjdcapbohaaGreatDoor.PConfKeeps Go.Proofs.YtlofkjdcapbohaaGreatDoorW.PrintWords Go.Proofs.YtlofkjdcapbohaaGreatDoorW.PrintLast Go.Proofs.YtlofkjdcapbohaaGreatDoorW.PrintMore
set_option linter.unusedVariables false
set_option linter.unusedSimpArgs false
/-! ### keys -/
theorem isSmall_eq (c : Int) : conf_isSmall.f c = some (decide (97 ≤ c ∧ c ≤ 122)) := by
 unfold conf_isSmall.f
 by_cases c1 : c ≥ 97
 ·rw [if_pos c1]
  by_cases c2 : c ≤ 122 <;> simp [c1, c2]
 ·rw [if_neg c1]
  simp; intro h_; omega
theorem bt_pos (s : ByteArray) (i : Int) : 0 ≤ bt s i := (bt_range s i).1
theorem key_lv (s : ByteArray) (hs : s.size ≤ 1000) : ∀ (d i : Nat), i + d = s.size → ∀ k, conf_isKey.l0 k s (i : Int) = some true → ∀ j, j < s.size → i ≤ j → bt s (j : Int) ≠ 46 := by
 intro d
 induction d with
 | zero => intro i hi k h j hj hij; omega
 | succ d ih =>
  intro i hi k h j hj hij
  have hlt : i < s.size := by omega
  have hb := bt_pos s (i : Int)
  cases k with
  | zero => rw [conf_isKey.l0] at h; cases h
  | succ k =>
   rw [conf_isKey.l0, if_pos (by omega), if_pos (by omega), isSmall_eq, isDigit_eq _ hb, Option.bind_some, Option.bind_some, w1 hlt (by omega)] at h
   have nx : conf_isKey.l0 k s ((i + 1 : Nat) : Int) = some true → bt s (i : Int) ≠ 46 → bt s (j : Int) ≠ 46 := fun h1 h2 => by
    rcases Nat.eq_or_lt_of_le hij with rfl | hlt2
    ·exact h2
    ·exact ih (i + 1) (by omega) k h1 j hj hlt2
   by_cases c1 : 97 ≤ bt s (i : Int) ∧ bt s (i : Int) ≤ 122
   ·rw [if_pos (decide_eq_true c1)] at h
    exact nx h (by omega)
   ·rw [if_neg (by simpa using c1)] at h
    by_cases c2 : 48 ≤ bt s (i : Int) ∧ bt s (i : Int) ≤ 57
    ·rw [if_pos (decide_eq_true c2)] at h
     exact nx h (by omega)
    ·rw [if_neg (by simpa using c2)] at h
     by_cases c3 : bt s (i : Int) = 45
     ·rw [if_pos c3] at h
      exact nx h (by omega)
     ·rw [if_neg c3] at h
      by_cases c4 : bt s (i : Int) = 95
      ·rw [if_pos c4] at h
       exact nx h (by omega)
      ·rw [if_neg c4] at h; cases h
theorem key_v {k : Nat} {s : ByteArray} (h : conf_isKey.f k s = some true) : 0 < s.size ∧ s.size ≤ 40 ∧ 97 ≤ bt s 0 ∧ (46 : UInt8) ∉ s.data.toList := by
 have jt : ∀ {k}, conf_isKey.j0 k s true ≠ some true := by
  intro k h
  cases k with
  | zero => rw [conf_isKey.j0] at h; cases h
  | succ k => rw [conf_isKey.j0, if_pos rfl] at h; cases h
 unfold conf_isKey.f at h
 split at h
 ·exact absurd h jt
 rename_i hne
 have h0 := tl_ne hne
 split at h
 ·exact absurd h jt
 rename_i hsz
 rw [if_pos (by omega), isSmall_eq, Option.bind_some] at h
 by_cases c1 : 97 ≤ bt s 0 ∧ bt s 0 ≤ 122
 ·rw [decide_eq_true c1] at h
  cases k with
  | zero => rw [conf_isKey.j0] at h; cases h
  | succ k =>
   rw [conf_isKey.j0, if_neg (by decide)] at h
   have hk := key_lv s (by omega) (s.size - 1) 1 (by omega) k h
   refine ⟨h0, by omega, c1.1, fun hm => ?_⟩
   obtain ⟨j, hj, he⟩ := List.getElem_of_mem hm
   have hj2 : j < s.size := by rw [Lib.size_eq]; exact hj
   have hb := bt_nat hj2
   rw [he] at hb
   by_cases hz : j = 0
   ·subst hz
    rw [show (((0 : Nat)) : Int) = 0 from rfl] at hb
    rw [hb] at c1
    exact absurd c1.1 (by decide)
   ·exact hk j hj2 (by omega) hb
 ·rw [decide_eq_false c1] at h
  exact absurd h jt
/-! ### steps -/
/-! ### follow, put, set -/
end Go.Proofs.YtlofkjdcapbohaaGreatDoor.Pure
namespace Go.Proofs.YtlofkjdcapbohaaGreatDoor.Pure.Ord
open Go.RowKit Go.Proofs.YtlofkjdcapbohaaGreatDoor.PConfKeeps Go.Proofs.YtlofkjdcapbohaaGreatDoorW.PrintWords Go.Proofs.YtlofkjdcapbohaaGreatDoorW.PrintLast Go.Proofs.YtlofkjdcapbohaaGreatDoorW.PrintMore

theorem w64 {n : Int} (h0 : -9223372036854775808 ≤ n) (h1 : n < 9223372036854775808) : wrap64 n = n := by unfold wrap64; omega
/-! ### Orders, as numbers: three values are compared -/
def lex (c d : Int) : Int := if c = 0 then d else c
theorem neg_lex (a b : Int) : lex (-a) (-b) = -(lex a b) := by
 unfold lex
 by_cases h : a = 0
 ·rw [if_pos h, if_pos (by omega)]
 ·rw [if_neg h, if_neg (by omega)]
/-! ### Whole numbers, bools -/
def sg (a b : Int) : Int := if a < b then -1 else if a > b then 1 else 0
theorem sg_neg (a b : Int) : sg b a = -(sg a b) := by unfold sg; split <;> split <;> (try split) <;> omega
def bi (b : Bool) : Int := if b = true then 1 else 0

/-! ### Lists -/
def cmpList {α : Type} (c : α → α → Int) : List α → List α → Int
 | [], [] => 0
 | [], _ :: _ => -1
 | _ :: _, [] => 1
 | a :: xs', b :: ys' => lex (c a b) (cmpList c xs' ys')
theorem cmpList_neg {α : Type} {c : α → α → Int} : ∀ (xs ys : List α), (∀ x ∈ xs, ∀ y ∈ ys, c y x = -(c x y)) → cmpList c ys xs = -(cmpList c xs ys)
 | [], [], _ => rfl
 | [], _ :: _, _ => rfl
 | _ :: _, [], _ => rfl
 | a :: xs', b :: ys', h => by
  show lex (c b a) (cmpList c ys' xs') = -(lex (c a b) (cmpList c xs' ys'))
  rw [h a (List.mem_cons_self ..) b (List.mem_cons_self ..), cmpList_neg xs' ys' (fun x hx y hy => h x (List.mem_cons_of_mem _ hx) y (List.mem_cons_of_mem _ hy)), neg_lex]
/-! ### Strings -/
def byteCmp (a b : UInt8) : Int := sg a.toNat b.toNat
theorem bytes_eq : ∀ (a b : List UInt8), Lib.compareBytes a b = cmpList byteCmp a b
 | [], [] => rfl
 | [], _ :: _ => rfl
 | _ :: _, [] => rfl
 | a :: xs', b :: ys' => by
  show (if a < b then (-1 : Int) else if b < a then 1 else Lib.compareBytes xs' ys') = lex (sg a.toNat b.toNat) (cmpList byteCmp xs' ys')
  rw [bytes_eq xs' ys']
  unfold lex sg
  by_cases h1 : a < b
  ·have := UInt8.lt_iff_toNat_lt.1 h1
   rw [if_pos h1, if_pos (show (a.toNat : Int) < b.toNat by omega), if_neg (by decide)]
  ·have h1' : ¬ (a.toNat < b.toNat) := fun h => h1 (UInt8.lt_iff_toNat_lt.2 h)
   rw [if_neg h1, if_neg (show ¬ (a.toNat : Int) < b.toNat by omega)]
   by_cases h2 : b < a
   ·have := UInt8.lt_iff_toNat_lt.1 h2
    rw [if_pos h2, if_pos (show (a.toNat : Int) > b.toNat by omega), if_neg (by decide)]
   ·have h2' : ¬ (b.toNat < a.toNat) := fun h => h2 (UInt8.lt_iff_toNat_lt.2 h)
    rw [if_neg h2, if_neg (show ¬ (a.toNat : Int) > b.toNat by omega), if_pos rfl]
def cb (a b : ByteArray) : Int := Lib.compareBytes a.data.toList b.data.toList
theorem cb_neg (a b : ByteArray) : cb b a = -(cb a b) := by
 unfold cb; rw [bytes_eq, bytes_eq]; exact cmpList_neg _ _ (fun x _ y _ => sg_neg _ _)
/-! ### Values -/
/-- Compare, as a plain function; d: how deep it looks. -/
def cv : Nat → S25 → S25 → Int
 | 0, _, _ => 0
 | d + 1, x, y => lex (sg x.f0 y.f0) (lex (sg (bi x.f1) (bi y.f1)) (lex (sg x.f2 y.f2) (lex (cb x.f3 y.f3) (lex (cmpList cb x.f5 y.f5) (cmpList (cv d) x.f4 y.f4)))))
theorem cv_neg : ∀ d x y, cv d y x = -(cv d x y)
 | 0, _, _ => rfl
 | d + 1, x, y => by
  simp only [cv]
  rw [sg_neg x.f0 y.f0, sg_neg (bi x.f1) (bi y.f1), sg_neg x.f2 y.f2, cb_neg x.f3 y.f3, cmpList_neg x.f5 y.f5 (fun a _ b _ => cb_neg a b), cmpList_neg x.f4 y.f4 (fun a _ b _ => cv_neg d a b)]
  simp only [neg_lex]
theorem cv_self (d : Nat) (x : S25) : cv d x x = 0 := by
 have := cv_neg d x x
 omega

/-! ### The printed function is this one -/
theorem sign_eq (a b : Int) : conf_sign.f a b = some (sg a b) := by
 unfold conf_sign.f sg; split <;> (try split) <;> rfl
theorem bit_eq (b : Bool) : conf_bit.f b = some (bi b) := by
 unfold conf_bit.f bi; split <;> rfl
abbrev F (k : Nat) (x y : S25) : Option Int := conf_Compare.f k x.f0 x.f1 x.f2 x.f3 x.f4 x.f5 y.f0 y.f1 y.f2 y.f3 y.f4 y.f5
/-- The rest of two lists, looked at from place i on, decides. -/
theorem cmp_tail {α : Type} (c : α → α → Int) (xs ys : List α) (i : Nat) (hx : xs.length ≤ i ∨ ys.length ≤ i) (h1 : i ≤ xs.length) (h2 : i ≤ ys.length) : cmpList c (xs.drop i) (ys.drop i) = sg (xs.length : Int) (ys.length : Int) := by
 unfold sg
 rcases Nat.lt_trichotomy xs.length ys.length with h | h | h
 ·rw [if_pos (by omega), List.drop_eq_nil_of_le (show xs.length ≤ i by omega), List.drop_eq_getElem_cons (show i < ys.length by omega)]; rfl
 ·rw [if_neg (by omega), if_neg (by omega), List.drop_eq_nil_of_le (show xs.length ≤ i by omega), List.drop_eq_nil_of_le (show ys.length ≤ i by omega)]; rfl
 ·rw [if_neg (by omega), if_pos (by omega), List.drop_eq_nil_of_le (show ys.length ≤ i by omega), List.drop_eq_getElem_cons (show i < xs.length by omega)]; rfl
theorem l2_at (d : Nat) (x y : S25) (hx : x.f4.length < 9223372036854775807) (hitems : ∀ a ∈ x.f4, ∀ b ∈ y.f4, ∃ k, F k a b = some (cv d a b)) : ∀ (t i : Nat), t + i = x.f4.length → i ≤ y.f4.length →
  ∃ k, conf_Compare.l2 k (i : Int) x.f0 x.f1 x.f2 x.f3 x.f4 x.f5 y.f0 y.f1 y.f2 y.f3 y.f4 y.f5 = some (cmpList (cv d) (x.f4.drop i) (y.f4.drop i)) := by
 intro t
 induction t with
 | zero =>
  intro i hi hy
  refine ⟨2, ?_⟩
  rw [conf_Compare.l2, if_neg (by omega), conf_Compare.j4, if_neg (by decide), sign_eq, Option.bind_some, cmp_tail _ _ _ i (by omega) (by omega) hy]
 | succ t ih =>
  intro i hi hy
  by_cases c : i < y.f4.length
  ·obtain ⟨k1, h1⟩ := hitems (x.f4[i]'(by omega)) (List.getElem_mem _) (y.f4[i]'c) (List.getElem_mem _)
   obtain ⟨k2, h2⟩ := ih (i + 1) (by omega) (by omega)
   refine ⟨k1 + k2 + 2, ?_⟩
   have e1 : rd_T25 x.f4 (i : Int) = x.f4[i]'(by omega) := by
    unfold rd_T25; rw [Int.toNat_natCast, List.getD, List.getElem?_eq_getElem (by omega)]; rfl
   have e2 : rd_T25 y.f4 (i : Int) = y.f4[i]'c := by
    unfold rd_T25; rw [Int.toNat_natCast, List.getD, List.getElem?_eq_getElem c]; rfl
   have h1' := at_rounds (conf_Compare.mono _ _ _ _ _ _ _ _ _ _ _ _) (show k1 ≤ k1 + k2 by omega) h1
   have h2' := at_rounds (fun k => (conf_Compare.mono_l k).2.2.2.2.1 (((i + 1 : Nat)) : Int) x.f0 x.f1 x.f2 x.f3 x.f4 x.f5 y.f0 y.f1 y.f2 y.f3 y.f4 y.f5) (show k2 ≤ k1 + k2 by omega) h2
   rw [conf_Compare.l2, if_pos (by omega), decide_eq_true (show (i : Int) < (y.f4.length : Int) by omega), conf_Compare.j4, if_pos rfl, if_pos (by omega), if_pos (by omega), if_pos (by omega), e1, e2, h1', Option.bind_some]
   rw [List.drop_eq_getElem_cons (show i < x.f4.length by omega), List.drop_eq_getElem_cons c]
   show _ = some (lex (cv d (x.f4[i]'(by omega)) (y.f4[i]'c)) (cmpList (cv d) (x.f4.drop (i + 1)) (y.f4.drop (i + 1))))
   unfold lex
   by_cases z : cv d (x.f4[i]'(by omega)) (y.f4[i]'c) = 0
   ·rw [if_pos z, if_pos z, w64 (by omega) (by omega)]
    exact h2'
   ·rw [if_neg z, if_neg z]
  ·refine ⟨2, ?_⟩
   rw [conf_Compare.l2, if_pos (by omega), decide_eq_false (by omega), conf_Compare.j4, if_neg (by decide), sign_eq, Option.bind_some, cmp_tail _ _ _ i (by omega) (by omega) hy]
theorem l1_at (x y : S25) (r : Int) (hx : x.f5.length < 9223372036854775807) (k0 : Nat) (h0 : conf_Compare.l2 k0 0 x.f0 x.f1 x.f2 x.f3 x.f4 x.f5 y.f0 y.f1 y.f2 y.f3 y.f4 y.f5 = some r) : ∀ (t i : Nat), t + i = x.f5.length → i ≤ y.f5.length →
  ∃ k, conf_Compare.l1 k (i : Int) x.f0 x.f1 x.f2 x.f3 x.f4 x.f5 y.f0 y.f1 y.f2 y.f3 y.f4 y.f5 = some (lex (cmpList cb (x.f5.drop i) (y.f5.drop i)) r) := by
 have hend : ∀ i : Nat, conf_Compare.j2 (k0 + 1) (i : Int) false x.f0 x.f1 x.f2 x.f3 x.f4 x.f5 y.f0 y.f1 y.f2 y.f3 y.f4 y.f5 = some (lex (sg (x.f5.length : Int) (y.f5.length : Int)) r) := by
  intro i
  rw [conf_Compare.j2, if_neg (by decide), sign_eq, Option.bind_some]
  unfold lex
  by_cases z : sg (x.f5.length : Int) (y.f5.length : Int) = 0
  ·rw [if_pos z, if_pos z]; exact h0
  ·rw [if_neg z, if_neg z]
 intro t
 induction t with
 | zero =>
  intro i hi hy
  refine ⟨k0 + 2, ?_⟩
  rw [conf_Compare.l1, if_neg (by omega), hend i, cmp_tail _ _ _ i (by omega) (by omega) hy]
 | succ t ih =>
  intro i hi hy
  by_cases c : i < y.f5.length
  ·obtain ⟨k2, h2⟩ := ih (i + 1) (by omega) (by omega)
   refine ⟨k2 + 2, ?_⟩
   have e1 : rdOf ByteArray.empty x.f5 (i : Int) = x.f5[i]'(by omega) := by
    unfold rdOf; rw [Int.toNat_natCast, List.getD, List.getElem?_eq_getElem (by omega)]; rfl
   have e2 : rdOf ByteArray.empty y.f5 (i : Int) = y.f5[i]'c := by
    unfold rdOf; rw [Int.toNat_natCast, List.getD, List.getElem?_eq_getElem c]; rfl
   rw [conf_Compare.l1, if_pos (by omega), decide_eq_true (show (i : Int) < (y.f5.length : Int) by omega), conf_Compare.j2, if_pos rfl, if_pos (by omega), if_pos (by omega), if_pos (by omega), e1, e2, strings_Compare.f, Option.bind_some]
   rw [List.drop_eq_getElem_cons (show i < x.f5.length by omega), List.drop_eq_getElem_cons c]
   show (if cb (x.f5[i]'(by omega)) (y.f5[i]'c) = 0 then _ else some (cb (x.f5[i]'(by omega)) (y.f5[i]'c))) = some (lex (lex (cb (x.f5[i]'(by omega)) (y.f5[i]'c)) (cmpList cb (x.f5.drop (i + 1)) (y.f5.drop (i + 1)))) r)
   by_cases z : cb (x.f5[i]'(by omega)) (y.f5[i]'c) = 0
   ·rw [if_pos z, z, w64 (by omega) (by omega)]
    exact h2
   ·rw [if_neg z]
    unfold lex
    rw [if_neg z, if_neg z]
  ·refine ⟨k0 + 2, ?_⟩
   rw [conf_Compare.l1, if_pos (by omega), decide_eq_false (by omega), hend i, cmp_tail _ _ _ i (by omega) (by omega) hy]
/-- How deep a value is, for the induction: any number that is large enough. -/
def Fits : Nat → S25 → Prop
 | 0, _ => False
 | d + 1, x => x.f4.length < 9223372036854775807 ∧ x.f5.length < 9223372036854775807 ∧ ∀ a ∈ x.f4, Fits d a
theorem fits_mono : ∀ d e x, d ≤ e → Fits d x → Fits e x
 | 0, _, _, _, h => h.elim
 | d + 1, 0, _, hd, _ => by omega
 | d + 1, e + 1, x, hd, h => ⟨h.1, h.2.1, fun a ha => fits_mono d e a (by omega) (h.2.2 a ha)⟩
theorem f_at : ∀ (d : Nat) (x y : S25), Fits d x → ∃ k, F k x y = some (cv d x y)
 | 0, _, _, h => h.elim
 | d + 1, x, y, h => by
  obtain ⟨k0, h0⟩ := l2_at d x y h.1 (fun a ha b _ => f_at d a b (h.2.2 a ha)) x.f4.length 0 rfl (by omega)
  obtain ⟨k1, h1⟩ := l1_at x y _ h.2.1 k0 h0 x.f5.length 0 rfl (by omega)
  refine ⟨k1 + 6, ?_⟩
  have up := fun n => at_rounds (fun k => (conf_Compare.mono_l k).2.2.1 0 x.f0 x.f1 x.f2 x.f3 x.f4 x.f5 y.f0 y.f1 y.f2 y.f3 y.f4 y.f5) (show k1 ≤ k1 + n by omega) h1
  show conf_Compare.f (k1 + 6) _ _ _ _ _ _ _ _ _ _ _ _ = _
  rw [conf_Compare.f]
  simp only [sign_eq, bit_eq, Option.bind_some, strings_Compare.f, cv]
  have w1 : wrap64 (0 + 1) = 1 := w64 (by omega) (by omega)
  have w2 : wrap64 (1 + 1) = 2 := w64 (by omega) (by omega)
  have w3 : wrap64 (2 + 1) = 3 := w64 (by omega) (by omega)
  have w4 : wrap64 (3 + 1) = 4 := w64 (by omega) (by omega)
  show conf_Compare.l0 (k1 + 5) [sg x.f0 y.f0, sg (bi x.f1) (bi y.f1), sg x.f2 y.f2, cb x.f3 y.f3] 4 0 _ _ _ _ _ _ _ _ _ _ _ _ = some (lex (sg x.f0 y.f0) (lex (sg (bi x.f1) (bi y.f1)) (lex (sg x.f2 y.f2) (lex (cb x.f3 y.f3) (lex (cmpList cb x.f5 y.f5) (cmpList (cv d) x.f4 y.f4))))))
  have r0 : ∀ a b c e : Int, rd [a, b, c, e] 0 = a := fun _ _ _ _ => rfl
  have r1 : ∀ a b c e : Int, rd [a, b, c, e] 1 = b := fun _ _ _ _ => rfl
  have r2 : ∀ a b c e : Int, rd [a, b, c, e] 2 = c := fun _ _ _ _ => rfl
  have r3 : ∀ a b c e : Int, rd [a, b, c, e] 3 = e := fun _ _ _ _ => rfl
  have hl : ∀ a b c e : Int, (([a, b, c, e] : List Int).length : Int) = 4 := fun _ _ _ _ => rfl
  rw [conf_Compare.l0, if_pos (by decide), if_pos (by decide), if_pos (by rw [hl]; decide), r0, w1]
  by_cases z0 : sg x.f0 y.f0 = 0
  case neg => rw [if_neg z0]; unfold lex; rw [if_neg z0]
  rw [if_pos z0, conf_Compare.l0, if_pos (by decide), if_pos (by decide), if_pos (by rw [hl]; decide), r1, w2]
  have e0 : ∀ q, lex (sg x.f0 y.f0) q = q := fun q => by unfold lex; rw [if_pos z0]
  rw [e0]
  by_cases z1 : sg (bi x.f1) (bi y.f1) = 0
  case neg => rw [if_neg z1]; unfold lex; rw [if_neg z1]
  rw [if_pos z1, conf_Compare.l0, if_pos (by decide), if_pos (by decide), if_pos (by rw [hl]; decide), r2, w3]
  have e1 : ∀ q, lex (sg (bi x.f1) (bi y.f1)) q = q := fun q => by unfold lex; rw [if_pos z1]
  rw [e1]
  by_cases z2 : sg x.f2 y.f2 = 0
  case neg => rw [if_neg z2]; unfold lex; rw [if_neg z2]
  rw [if_pos z2, conf_Compare.l0, if_pos (by decide), if_pos (by decide), if_pos (by rw [hl]; decide), r3, w4]
  have e2 : ∀ q, lex (sg x.f2 y.f2) q = q := fun q => by unfold lex; rw [if_pos z2]
  rw [e2]
  by_cases z3 : cb x.f3 y.f3 = 0
  case neg => rw [if_neg z3]; unfold lex; rw [if_neg z3]
  rw [if_pos z3, conf_Compare.l0, if_neg (by decide)]
  have e3 : ∀ q, lex (cb x.f3 y.f3) q = q := fun q => by unfold lex; rw [if_pos z3]
  rw [e3]
  exact up 0
end Go.Proofs.YtlofkjdcapbohaaGreatDoor.Pure.Ord
namespace Go.Proofs.YtlofkjdcapbohaaGreatDoor.Pure
open Go.RowKit Go.Proofs.YtlofkjdcapbohaaGreatDoor.PConfKeeps Go.Proofs.YtlofkjdcapbohaaGreatDoorW.PrintWords Go.Proofs.YtlofkjdcapbohaaGreatDoorW.PrintLast Go.Proofs.YtlofkjdcapbohaaGreatDoorW.PrintMore
set_option linter.unusedVariables false
set_option linter.unusedSimpArgs false
/-- a part of a route and the step that it is -/
def SP (p : ByteArray) (s : S95) : Prop := ((∃ k, conf_isKey.f k p = some true) ∧ s = ⟨p, 0, false⟩) ∨ (∃ i : Nat, i < 1000 ∧ p.data.toList = Lib.itoa (i : Int) ∧ s = ⟨⟨#[]⟩, (i : Int), false⟩)
theorem num_facts {i : Nat} (h : i < 1000) : (Lib.itoa (i : Int)).length ≤ 3 ∧ Lib.itoa (i : Int) ≠ [] ∧ (Lib.itoa (i : Int)).all (fun c => 48 ≤ c.toNat && c.toNat ≤ 57) = true ∧ ((Lib.itoa (i : Int)).head? ≠ some 48 ∨ Lib.itoa (i : Int) = [48]) ∧ Lib.atoi (Lib.itoa (i : Int)) = some (i : Int) := by
 have := num_ok i h
 unfold numOk at this
 simp only [Bool.and_eq_true, Bool.or_eq_true, decide_eq_true_eq, bne_iff_ne, beq_iff_eq] at this
 obtain ⟨⟨⟨⟨a, b⟩, c⟩, d⟩, e⟩ := this
 exact ⟨a, b, c, d, e⟩
theorem dig_no_dot {l : List UInt8} (h : l.all (fun c => 48 ≤ c.toNat && c.toNat ≤ 57) = true) : (46 : UInt8) ∉ l := fun hm => by
 have := List.all_eq_true.1 h 46 hm
 exact absurd this (by decide)
theorem sp_ok {p : ByteArray} {s : S95} (h : SP p s) : p.data.toList ≠ [] ∧ (46 : UInt8) ∉ p.data.toList ∧ p.size ≤ 40 := by
 rcases h with ⟨⟨k, hk⟩, _⟩ | ⟨i, hi, hp, _⟩
 ·obtain ⟨h0, h1, _, h3⟩ := key_v hk
  exact ⟨fun he => by have := Lib.size_eq p; rw [he, List.length_nil] at this; omega, h3, h1⟩
 ·obtain ⟨h1, h2, h3, _, _⟩ := num_facts hi
  rw [hp]
  exact ⟨h2, dig_no_dot h3, by have := Lib.size_eq p; rw [hp] at this; omega⟩
/-! ### routes -/
/-! ### the steps of such a route -/
theorem key_ev {p : ByteArray} (h : ∃ k, conf_isKey.f k p = some true) : Ev (fun k => conf_isKey.f k p) true := by
 obtain ⟨k, hk⟩ := h
 exact Ev.of (conf_isKey.mono p) hk
theorem not_key {p : ByteArray} (h1 : p.size ≤ 1000) (h0 : 0 < p.size) (h : bt p 0 ≤ 57) : Ev (fun k => conf_isKey.f k p) false := by
 obtain ⟨b, hb, _⟩ := key_tt p (by omega)
 cases b with
 | false => exact hb
 | true =>
  obtain ⟨k, hk⟩ := hb.rounds
  have := (key_v hk).2.2.1
  omega
theorem steps_of (r : List (ByteArray × S95)) (hr : r.length ≤ 1000) (hsp : ∀ a ∈ r, SP a.1 a.2) : ∀ (d i : Nat), i + d = r.length → Ev (fun k => conf_steps.l0 k false ((r.take i).map (·.2)) (r.map (·.1)) (((r.map (·.1)).length : Nat) : Int) (i : Int)) (r.map (·.2), true)
 | 0, i, h => Ev.step (f := fun _ => some (r.map (·.2), true)) (fun k => by rw [conf_steps.l0, if_neg (by rw [List.length_map]; omega), List.take_of_length_le (by omega)]) (Ev.now _)
 | d + 1, i, h => by
  have hi : i < r.length := by omega
  have hi2 : i < (r.map (·.1)).length := by rw [List.length_map]; exact hi
  have ih := steps_of r hr hsp d (i + 1) (by omega)
  rw [List.take_succ_eq_append_getElem hi, List.map_append, List.map_cons, List.map_nil] at ih
  have hs := hsp _ (List.getElem_mem hi)
  have hl : ((r.take i).map (·.2)).length ≤ 1000 := by rw [List.length_map, List.length_take]; omega
  have e1 : (r.map (·.1))[i] = (r[i]).1 := List.getElem_map ..
  refine Ev.step (fun k => by rw [conf_steps.l0, if_pos (by omega), if_pos (by omega), if_pos (by omega), rdOf_at hi2, e1, w1 hi2 (by rw [List.length_map]; omega)]) ?_
  generalize r[i] = a at hs ih e1 ⊢
  obtain ⟨p, s⟩ := a
  dsimp only at hs ih ⊢
  rcases hs with ⟨hk, hse⟩ | ⟨n, hn, hp, hse⟩
  ·refine Ev.bind (key_ev hk) ?_
   rw [hse] at ih
   exact Ev.congr (fun k => by rw [if_pos rfl, if_pos (by omega)]) ih
  ·obtain ⟨n1, n2, n3, n4, n5⟩ := num_facts hn
   have hsz := Lib.size_eq p
   rw [hp] at hsz
   have h0 : 0 < p.size := by have := List.length_pos_iff.2 n2; omega
   have hb := bt_nat h0
   rw [show (((0 : Nat)) : Int) = 0 from rfl] at hb
   obtain ⟨c, l, hcl⟩ : ∃ c l, Lib.itoa (n : Int) = c :: l := by
    cases hq : Lib.itoa (n : Int) with
    | nil => exact absurd hq n2
    | cons c l => exact ⟨c, l, rfl⟩
   have hc0 : p.data.toList[0]'(by rw [hp, hcl]; simp) = c := (List.getElem?_eq_some_iff.1 (show p.data.toList[0]? = some c by rw [hp, hcl]; rfl)).2
   rw [hc0] at hb
   have hd : 48 ≤ c.toNat ∧ c.toNat ≤ 57 := by
    rw [hcl, List.all_cons, Bool.and_eq_true] at n3
    simpa using n3.1
   refine Ev.bind (not_key (by omega) h0 (by omega)) ?_
   refine Ev.congr (f := fun k => conf_steps.j1 k false ((r.take i).map (·.2)) p (r.map (·.1)) (((r.map (·.1)).length : Nat) : Int) (i : Int) false) (fun k => by rw [if_neg (by decide), if_neg (by decide)]) ?_
   have hne : ¬ p.toList = ([] : List UInt8) := by rw [tl_eq, hp]; exact n2
   refine Ev.step (fun k => by rw [conf_steps.j1, if_neg (by decide), if_neg hne, if_neg (by omega), w1 hi2 (by rw [List.length_map]; omega)]) ?_
   have hint := int_ev p (by omega) h0 (by omega)
   rw [hp, n3] at hint
   refine Ev.bind hint ?_
   have hat : strconv_Atoi.f p = some ((n : Int), none) := by
    unfold strconv_Atoi.f
    rw [if_pos (by omega), hp, n5]; rfl
   rw [hse] at ih
   refine Ev.congr (fun k => ?_) ih
   rw [if_pos rfl, if_pos (by omega), if_neg (by omega)]
   by_cases h48 : bt p 0 = 48
   ·have h48' : p.toList = ([48] : List UInt8) := by
     rw [tl_eq, hp]
     rcases n4 with h_ | h_
     ·rw [hcl] at h_
      exfalso; apply h_
      have : c.toNat = 48 := by omega
      rw [show c = 48 from UInt8.toNat_inj.1 this]; rfl
     ·exact h_
    rw [if_pos h48, if_pos h48', hat, Option.bind_some, if_pos (by omega)]
   ·rw [if_neg h48, hat, Option.bind_some, if_pos (by omega)]
theorem dots_len : ∀ (l : List (List UInt8)), (∀ q ∈ l, q.length ≤ 40) → (dots l).length ≤ 41 * l.length
 | [], _ => by rw [dots]; simp
 | [p], h => by rw [dots]; have := h p (List.mem_cons_self ..); simp; omega
 | p :: q :: ps, h => by
  have h1 := h p (List.mem_cons_self ..)
  have h2 := dots_len (q :: ps) (fun x hx => h x (List.mem_cons_of_mem _ hx))
  rw [dots]
  simp only [List.length_append, List.length_cons] at h2 ⊢
  omega
/-! ### joined -/
theorem ord_fits : ∀ (n : Nat) (x : S25), Fits n x → Ord.Fits n x
 | 0, _, h => h.elim
 | n + 1, x, h => ⟨by have := h.2.1; omega, by have := h.2.2.1; omega, fun a ha => ord_fits n a (h.2.2.2.2 a ha)⟩
theorem same_ev {n : Nat} {x : S25} (h : Fits n x) : Ev (fun k => Fsm k x x) true := by
 obtain ⟨k, hk⟩ := Ord.f_at n x x (ord_fits n x h)
 rw [Ord.cv_self] at hk
 have he : Ev (fun k => conf_Compare.f k x.f0 x.f1 x.f2 x.f3 x.f4 x.f5 x.f0 x.f1 x.f2 x.f3 x.f4 x.f5) 0 := Ev.of (conf_Compare.mono _ _ _ _ _ _ _ _ _ _ _ _) hk
 unfold Fsm mastkeep2_same.f
 exact Ev.bind he (Ev.now true)
end Go.Proofs.YtlofkjdcapbohaaGreatDoor.Pure
