import Derived.Maps.OwnOps
import Derived.DeepKeys4
import Derived.Below
namespace Go.Proofs.YtlofkjdcapbohaaGreatDoor.Mp
open Go Go.Maps Go.MapKept Go.ChangeMaps Go.RowKit
set_option linter.unusedVariables false
set_option linter.unusedSimpArgs false
/-! A map that the call itself has made, said by a list of what has been stored, the last store first. -/
section
variable {κ α : Type} [DecidableEq κ] {P : Program} {kt et t : TypeId} {E : κ → Value} {V : α → Value} {b : Nat} {l : List (κ × α)} {w : World}
def look : List (κ × α) → κ → Option α
 | [], _ => none
 | (x, a) :: r, k => if x = k then some a else look r k
/-- block b of w is a map that holds what the list holds -/
def Is (P : Program) (kt : TypeId) (E : κ → Value) (V : α → Value) (b : Nat) (l : List (κ × α)) (w : World) : Prop :=
 ∃ es clock, w.heap[b]? = some (.map es clock) ∧ Stamped es clock ∧
  (∀ e ∈ es.toList, ∃ k a, e.key = E k ∧ e.val = V a ∧ (∃ q, keyOf P kt (E k) = some q) ∧ look l k = some a) ∧ ∀ k a, look l k = some a → ∃ e ∈ es.toList, e.key = E k
theorem Is.block {w' : World} (h : Is P kt E V b l w) (hb : w'.heap[b]? = w.heap[b]?) : Is P kt E V b l w' := by
 obtain ⟨es, clock, h0, h1⟩ := h
 exact ⟨es, clock, hb.trans h0, h1⟩
theorem Is.lt (h : Is P kt E V b l w) : b < w.heap.size := by
 obtain ⟨es, clock, hb, _⟩ := h
 exact (Array.getElem?_eq_some_iff.1 hb).1
theorem Is.below {w' : World} (h : Is P kt E V b l w) (hb : Below w.heap.size w w') : Is P kt E V b l w' := h.block (hb.block b h.lt)
theorem Is.ne {g : Nat} {cs : Array Value} {T : TypeId} {fz : Nat × Nat} (h : Is P kt E V b l w) (hg : w.heap[g]? = some (.cells cs T fz)) : g ≠ b := by
 intro e
 subst e
 obtain ⟨es, clock, hb, _⟩ := h
 rw [hg] at hb
 cases hb
theorem Is.made (w : World) (P : Program) (kt : TypeId) (E : κ → Value) (V : α → Value) : Is P kt E V w.heap.size ([] : List (κ × α)) (w.alloc (.map #[] 0)) :=
 ⟨#[], 0, (MapKept.heap_alloc w _).1, stamped_empty 0, by simp, fun k a h => by cases h⟩
theorem Is.lookup (h : Is P kt E V b l w) (c : Bool) (K : Keyed P kt) (ht : P.underlying t = some (.map kt et)) {z : Value} (hz : (zeroValue et).run P w = .ok z w) (hE : ∀ x y, E x = E y → x = y)
  {k : κ} {q : Lit} (hq : keyOf P kt (E k) = some q) :
  (Instr.lookup t (.map (some b)) (E k) c).run P w = .ok (if c then .tuple #[((look l k).map V).getD z, .bool (look l k).isSome] else ((look l k).map V).getD z) w := by
 obtain ⟨es, clock, hb, hp, hes, hl⟩ := h
 have hks : ∀ e ∈ es.toList, ∃ l, keyOf P kt e.key = some l := fun e he => by
  obtain ⟨k', a, e1, _, ⟨q', hq'⟩, _⟩ := hes e he
  exact ⟨q', by rw [e1]; exact hq'⟩
 rcases K.find w hq es.toList hks with ⟨h1, h2⟩ | ⟨j, e0, h1, h2, h3⟩
 ·have hn : look l k = none := by
   rcases e : look l k with _ | a
   ·rfl
   ·obtain ⟨e0, he0, hk0⟩ := hl k a e
    exact absurd hk0 (h2 e0 he0)
  rw [hn]
  simp [Instr.lookup, run_underlying ht, MapKept.run_getObj_map hb, K.check w _ hq, h1, hz, Result.andThen]
 ·obtain ⟨k', a, e1, e2, _, e4⟩ := hes e0 (List.mem_of_getElem? h2)
  have : k' = k := hE _ _ (e1.symm.trans h3)
  subst this
  rw [e4]
  simp [Instr.lookup, run_underlying ht, MapKept.run_getObj_map hb, K.check w _ hq, h1, Result.andThen, e2]
theorem Is.update (h : Is P kt E V b l w) (K : Keyed P kt) (ht : P.underlying t = some (.map kt et)) (hE : ∀ x y, E x = E y → x = y) {k : κ} {q : Lit} (hq : keyOf P kt (E k) = some q) (a : α) :
  ∃ w', (Instr.mapUpdate t (.map (some b)) (E k) (V a)).run P w = .ok () w' ∧ Is P kt E V b ((k, a) :: l) w' ∧ w.grownBy w' (some b) := by
 obtain ⟨es, clock, hb, hp, hes, hl⟩ := h
 have hks : ∀ e ∈ es.toList, ∃ l, keyOf P kt e.key = some l := fun e he => by
  obtain ⟨k', a, e1, _, ⟨q', hq'⟩, _⟩ := hes e he
  exact ⟨q', by rw [e1]; exact hq'⟩
 have hgrow : ∀ o, w.grownBy (setBlock w b o) (some b) := fun o => ⟨rfl, rfl, rfl, by simp [setBlock], fun i _ hi => heap_setBlock_other hb _ (fun e => hi (by rw [e]))⟩
 rcases K.find w hq es.toList hks with ⟨h1, h2⟩ | ⟨j, e0, h1, h2, h3⟩
 ·refine ⟨setBlock w b (.map (es.push ⟨E k, V a, clock⟩) (clock + 1)), ?_, ⟨_, _, heap_setBlock_same hb _, ?_, ?_, ?_⟩, hgrow _⟩
  ·simp [Instr.mapUpdate, run_underlying ht, MapKept.run_getObj_map hb, K.check w false hq, h1, MapKept.run_setObj_map _ hb, Result.andThen, setBlock]
  ·exact stamped_push hp h2
  ·intro e he
   rw [Array.toList_push, List.mem_append, List.mem_singleton] at he
   rcases he with he | rfl
   ·obtain ⟨k', a', e1, e2, e3, e4⟩ := hes e he
    refine ⟨k', a', e1, e2, e3, ?_⟩
    unfold look
    rw [if_neg (fun e' => h2 e he (by rw [e1, e'])), e4]
   ·exact ⟨k, a, rfl, rfl, ⟨q, hq⟩, by unfold look; rw [if_pos rfl]⟩
  ·intro k' a' hk'
   unfold look at hk'
   rw [Array.toList_push]
   by_cases e : k = k'
   ·subst e
    exact ⟨⟨E k, V a, clock⟩, by simp, rfl⟩
   ·rw [if_neg e] at hk'
    obtain ⟨e0, he0, hk0⟩ := hl k' a' hk'
    exact ⟨e0, by simp [he0], hk0⟩
 ·have hj : es[j]? = some e0 := by simpa using h2
  have hpp := ((stamped_iff es clock).1 hp).2.2
  have hlist : (es.modify j (fun e' => { e' with key := E k, val := V a })).toList = es.toList.set j { e0 with key := E k, val := V a } := by rw [Array.toList_modify, modify_eq_set _ _ _ _ h2]
  have hjl : j < es.toList.length := (List.getElem?_eq_some_iff.1 h2).1
  have hje : es.toList[j] = e0 := (List.getElem?_eq_some_iff.1 h2).2
  have hkeys : (es.toList.set j { e0 with key := E k, val := V a }).map (·.key) = es.toList.map (·.key) := by
   rw [List.map_set]
   show List.set _ j (E k) = _
   have : E k = (es.toList.map (·.key))[j]'(by simpa using hjl) := by rw [List.getElem_map, hje, h3]
   rw [this, List.set_getElem_self]
  have who : ∀ x ∈ es.toList.set j { e0 with key := E k, val := V a }, x = { e0 with key := E k, val := V a } ∨ (x ∈ es.toList ∧ x.key ≠ E k) := by
   intro x hx
   obtain ⟨i, hi, ex⟩ := List.getElem_of_mem hx
   rw [List.getElem_set] at ex
   split at ex
   ·exact Or.inl ex.symm
   ·rename_i hne
    have hi' : i < es.toList.length := by simpa using hi
    refine Or.inr ⟨ex ▸ List.getElem_mem hi', ?_⟩
    rw [← h3, ← ex]
    rcases Nat.lt_or_gt_of_ne hne with hlt | hlt
    ·have := List.pairwise_iff_getElem.1 hpp j i hjl hi' hlt
     rw [hje] at this
     exact fun e => this e.symm
    ·have := List.pairwise_iff_getElem.1 hpp i j hi' hjl hlt
     rw [hje] at this
     exact this
  refine ⟨setBlock w b (.map (es.modify j (fun e' => { e' with key := E k, val := V a })) clock), ?_, ⟨_, _, heap_setBlock_same hb _, ?_, ?_, ?_⟩, hgrow _⟩
  ·simp [Instr.mapUpdate, run_underlying ht, MapKept.run_getObj_map hb, K.check w false hq, h1, hj, h3, K.stays w hq, MapKept.run_setObj_map _ hb, Result.andThen, setBlock]
  ·exact stamped_modify hp _ _ (fun _ _ => rfl) (fun e' _ he' => by rw [hj] at he'; cases he'; exact h3.symm)
  ·intro e he
   rw [hlist] at he
   rcases who e he with rfl | ⟨he, hne⟩
   ·exact ⟨k, a, rfl, rfl, ⟨q, hq⟩, by unfold look; rw [if_pos rfl]⟩
   ·obtain ⟨k', a', e1, e2, e3, e4⟩ := hes e he
    refine ⟨k', a', e1, e2, e3, ?_⟩
    unfold look
    rw [if_neg (fun e' => hne (by rw [e1, e'])), e4]
  ·intro k' a' hk'
   rw [hlist]
   unfold look at hk'
   have hmem : ∀ v, v ∈ es.toList.map (·.key) → ∃ e ∈ es.toList.set j { e0 with key := E k, val := V a }, e.key = v := fun v hv => by
    rw [← hkeys] at hv
    obtain ⟨e, he, h⟩ := List.mem_map.1 hv
    exact ⟨e, he, h⟩
   by_cases e : k = k'
   ·subst e
    exact hmem _ (List.mem_map.2 ⟨e0, List.mem_of_getElem? h2, h3⟩)
   ·rw [if_neg e] at hk'
    obtain ⟨e1, he1, hk1⟩ := hl k' a' hk'
    exact hmem _ (List.mem_map.2 ⟨e1, he1, hk1⟩)
/-- .. and the entry stamped i bears key k -/
def IsAt (P : Program) (kt : TypeId) (E : κ → Value) (V : α → Value) (b : Nat) (l : List (κ × α)) (k : κ) (i : Nat) (w : World) : Prop :=
 ∃ es clock, w.heap[b]? = some (.map es clock) ∧ Stamped es clock ∧
  (∀ e ∈ es.toList, ∃ k a, e.key = E k ∧ e.val = V a ∧ (∃ q, keyOf P kt (E k) = some q) ∧ look l k = some a) ∧ (∀ k a, look l k = some a → ∃ e ∈ es.toList, e.key = E k) ∧ ∃ e ∈ es.toList, e.born = i ∧ e.key = E k
theorem IsAt.is {k : κ} {i : Nat} (h : IsAt P kt E V b l k i w) : Is P kt E V b l w := by
 obtain ⟨es, clock, h1, h2, h3, h4, _⟩ := h
 exact ⟨es, clock, h1, h2, h3, h4⟩
theorem IsAt.block {k : κ} {i : Nat} {w' : World} (h : IsAt P kt E V b l k i w) (hb : w'.heap[b]? = w.heap[b]?) : IsAt P kt E V b l k i w' := by
 obtain ⟨es, clock, h0, h1⟩ := h
 exact ⟨es, clock, hb.trans h0, h1⟩
theorem wp_look {ops : Array Oper} {rest : List Oper} {o : Oper} {a : Act} {Q : Exit → Act → World → Prop} (hg : o.guard = none) (m x : Operand) (c : Bool) (hop : o.op = Op.lookup t m x c)
  (K : Keyed P kt) (ht : P.underlying t = some (.map kt et)) {z : Value} (hz : (zeroValue et).run P w = .ok z w) (hE : ∀ x y, E x = E y → x = y) (hm : a.eval m = .map (some b)) (h : Is P kt E V b l w)
  (k : κ) (q : Lit) (hx : a.eval x = E k) (hq : keyOf P kt (E k) = some q)
  (hK : wpList P ops Q rest (a.put o.dst (if c then .tuple #[((look l k).map V).getD z, .bool (look l k).isSome] else ((look l k).map V).getD z)) w) : wpList P ops Q (o :: rest) a w := by
 refine wpList_plain hg fun K' hK' => ?_
 have hrun := h.lookup c K ht hz hE hq
 generalize (if c then Value.tuple #[((look l k).map V).getD z, .bool (look l k).isSome] else ((look l k).map V).getD z) = u at hrun hK
 unfold Oper.wp
 simp [execOp, hop, hm, hx, hrun, Result.andThen]
 exact hK' _ _ hK
theorem wp_put {ops : Array Oper} {rest : List Oper} {o : Oper} {a : Act} {Q : Exit → Act → World → Prop} (hg : o.guard = none) (m x v : Operand) (hop : o.op = Op.mapUpdate t m x v)
  (K : Keyed P kt) (ht : P.underlying t = some (.map kt et)) (hE : ∀ x y, E x = E y → x = y) (hm : a.eval m = .map (some b)) (h : Is P kt E V b l w)
  (k : κ) (y : α) (q : Lit) (hx : a.eval x = E k) (hv : a.eval v = V y) (hq : keyOf P kt (E k) = some q)
  (hK : ∀ w', Is P kt E V b ((k, y) :: l) w' → w.grownBy w' (some b) → wpList P ops Q rest (a.put o.dst undef) w') : wpList P ops Q (o :: rest) a w := by
 refine wpList_plain hg fun K' hK' => ?_
 obtain ⟨w', hrun, r1, r2⟩ := h.update K ht hE hq y
 unfold Oper.wp
 simp [execOp, hop, hm, hx, hv, hrun, Result.andThen]
 exact hK' _ _ (hK w' r1 r2)
end
theorem blk_grown {w w' : World} {b g : Nat} {o : Obj} (h : w.grownBy w' (some b)) (hg : w.heap[g]? = some o) (hne : g ≠ b) : w'.heap[g]? = some o :=
 (h.block g (Array.getElem?_eq_some_iff.1 hg).1 (fun e => hne (by cases e; rfl))).trans hg
section
variable {P : Program} {kt e : TypeId}
end
end Go.Proofs.YtlofkjdcapbohaaGreatDoor.Mp
