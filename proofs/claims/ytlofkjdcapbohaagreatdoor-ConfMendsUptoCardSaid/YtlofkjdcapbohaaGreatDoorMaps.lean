import Derived.Maps.OwnOps
import Derived.DeepKeys4
import Derived.Below
namespace Go.Proofs.YtlofkjdcapbohaaGreatDoor.Mp
open Go Go.Maps Go.MapKept Go.ChangeMaps Go.RowKit
set_option linter.unusedVariables false
set_option linter.unusedSimpArgs false
/-! A map that the call itself has made, said by a list of what has been stored, the last store first. -/
section
variable {κ α : Type} [DecidableEq κ] {P : Program} {kt et t : TypeId} {E : κ → Value} {V : α → Value} {b : Nat} {l : List (κ × α)} {w : World}
def look : List (κ × α) → κ → Option α
 | [], _ => none
 | (x, a) :: r, k => if x = k then some a else look r k
/-- block b of w is a map that holds what the list holds -/
def Is (P : Program) (kt : TypeId) (E : κ → Value) (V : α → Value) (b : Nat) (l : List (κ × α)) (w : World) : Prop :=
 ∃ es clock, w.heap[b]? = some (.map es clock) ∧ Stamped es clock ∧
  (∀ e ∈ es.toList, ∃ k a, e.key = E k ∧ e.val = V a ∧ (∃ q, keyOf P kt (E k) = some q) ∧ look l k = some a) ∧ ∀ k a, look l k = some a → ∃ e ∈ es.toList, e.key = E k
theorem Is.block {w' : World} (h : Is P kt E V b l w) (hb : w'.heap[b]? = w.heap[b]?) : Is P kt E V b l w' := by
 obtain ⟨es, clock, h0, h1⟩ := h
 exact ⟨es, clock, hb.trans h0, h1⟩
theorem Is.lt (h : Is P kt E V b l w) : b < w.heap.size := by
 obtain ⟨es, clock, hb, _⟩ := h
 exact (Array.getElem?_eq_some_iff.1 hb).1
theorem Is.below {w' : World} (h : Is P kt E V b l w) (hb : Below w.heap.size w w') : Is P kt E V b l w' := h.block (hb.block b h.lt)
/-- .. and the entry stamped i bears key k -/
def IsAt (P : Program) (kt : TypeId) (E : κ → Value) (V : α → Value) (b : Nat) (l : List (κ × α)) (k : κ) (i : Nat) (w : World) : Prop :=
 ∃ es clock, w.heap[b]? = some (.map es clock) ∧ Stamped es clock ∧
  (∀ e ∈ es.toList, ∃ k a, e.key = E k ∧ e.val = V a ∧ (∃ q, keyOf P kt (E k) = some q) ∧ look l k = some a) ∧ (∀ k a, look l k = some a → ∃ e ∈ es.toList, e.key = E k) ∧ ∃ e ∈ es.toList, e.born = i ∧ e.key = E k
theorem IsAt.is {k : κ} {i : Nat} (h : IsAt P kt E V b l k i w) : Is P kt E V b l w := by
 obtain ⟨es, clock, h1, h2, h3, h4, _⟩ := h
 exact ⟨es, clock, h1, h2, h3, h4⟩
theorem IsAt.block {k : κ} {i : Nat} {w' : World} (h : IsAt P kt E V b l k i w) (hb : w'.heap[b]? = w.heap[b]?) : IsAt P kt E V b l k i w' := by
 obtain ⟨es, clock, h0, h1⟩ := h
 exact ⟨es, clock, hb.trans h0, h1⟩
theorem IsAt.store {k : κ} {i : Nat} {v0 : α} (h : IsAt P kt E V b ((k, v0) :: l) k i w) (hE : ∀ x y, E x = E y → x = y) (v : α) :
  ∃ w', (Instr.entryStore t (.map (some b)) (.int .i64 i) (V v)).run P w = .ok () w' ∧ Is P kt E V b ((k, v) :: l) w' ∧ w.grownBy w' (some b) := by
 obtain ⟨es, clock, hb, hp, hes, hl, e0, hm0, hborn, hkey⟩ := h
 have hgrow : ∀ o, w.grownBy (setBlock w b o) (some b) := fun o => ⟨rfl, rfl, rfl, by simp [setBlock], fun i _ hi => heap_setBlock_other hb _ (fun e => hi (by rw [e]))⟩
 obtain ⟨hlt, hnd, hpp⟩ := (stamped_iff es clock).1 hp
 obtain ⟨j, hj⟩ : ∃ j, es.findIdx? (fun e => (e.born : Int) == (i : Int)) = some j := by
  rcases hf : es.findIdx? (fun e => (e.born : Int) == (i : Int)) with _ | j
  ·rw [Array.findIdx?_eq_none_iff] at hf
   have := hf e0 (Array.mem_toList_iff.1 hm0)
   rw [hborn] at this
   simp at this
  ·exact ⟨j, hf⟩
 have hjj := Array.findIdx?_eq_some_iff_getElem.1 hj
 obtain ⟨hjl, hjb, _⟩ := hjj
 have hjb' : es[j].born = i := Int.ofNat.inj (beq_iff_eq.1 hjb)
 have hmj : es[j] ∈ es.toList := Array.mem_toList_iff.2 (Array.getElem_mem hjl)
 have hjl' : j < es.toList.length := by simpa using hjl
 have hjk : es[j].key = E k := by
  have : es[j] = e0 := by
   obtain ⟨m, hm, em⟩ := List.getElem_of_mem hm0
   have hnd' := List.pairwise_map.1 (List.nodup_iff_pairwise_ne.1 hnd)
   rcases Nat.lt_trichotomy j m with hlt' | heq | hlt'
   ·have := List.pairwise_iff_getElem.1 hnd' j m hjl' hm hlt'
    rw [em, hborn] at this
    exact absurd (by simpa using hjb') this
   ·subst heq
    simpa using em
   ·have := List.pairwise_iff_getElem.1 hnd' m j hm hjl' hlt'
    rw [em, hborn] at this
    exact absurd (by simpa using hjb'.symm) this
  rw [this, hkey]
 have h2 : es.toList[j]? = some es[j] := by simp [hjl]
 have hlist : (es.modify j (fun e' => { e' with val := V v })).toList = es.toList.set j { es[j] with val := V v } := by rw [Array.toList_modify, modify_eq_set _ _ _ _ h2]
 have who : ∀ x ∈ es.toList.set j { es[j] with val := V v }, x = { es[j] with val := V v } ∨ (x ∈ es.toList ∧ x.key ≠ E k) := by
  intro x hx
  obtain ⟨i', hi, ex⟩ := List.getElem_of_mem hx
  rw [List.getElem_set] at ex
  split at ex
  ·exact Or.inl ex.symm
  ·rename_i hne
   have hi' : i' < es.toList.length := by simpa using hi
   refine Or.inr ⟨ex ▸ List.getElem_mem hi', ?_⟩
   rw [← hjk, ← ex]
   rcases Nat.lt_or_gt_of_ne hne with hlt' | hlt'
   ·have := List.pairwise_iff_getElem.1 hpp j i' hjl' hi' hlt'
    exact fun e => this (by simpa using e.symm)
   ·have := List.pairwise_iff_getElem.1 hpp i' j hi' hjl' hlt'
    exact fun e => this (by simpa using e)
 have hkeys : (es.toList.set j { es[j] with val := V v }).map (·.key) = es.toList.map (·.key) := by
  rw [List.map_set]
  show List.set _ j (es[j].key) = _
  have : es[j].key = (es.toList.map (·.key))[j]'(by simpa using hjl) := by rw [List.getElem_map]; simp
  rw [this, List.set_getElem_self]
 have hmem : ∀ u, u ∈ es.toList.map (·.key) → ∃ e ∈ es.toList.set j { es[j] with val := V v }, e.key = u := fun u hu => by
  rw [← hkeys] at hu
  obtain ⟨e, he, h⟩ := List.mem_map.1 hu
  exact ⟨e, he, h⟩
 refine ⟨setBlock w b (.map (es.modify j (fun e' => { e' with val := V v })) clock), ?_, ⟨_, _, heap_setBlock_same hb _, stamped_modify hp _ _ (fun _ _ => rfl) (fun _ _ _ => rfl), ?_, ?_⟩, hgrow _⟩
 ·simp [Instr.entryStore, MapKept.run_getObj_map hb, asInt, asIntOf, hj, MapKept.run_setObj_map _ hb, Result.andThen, setBlock]
 ·intro e he
  rw [hlist] at he
  obtain ⟨kj, aj, ej1, ej2, ej3, ej4⟩ := hes _ hmj
  rcases who e he with rfl | ⟨he, hne⟩
  ·refine ⟨k, v, hjk, rfl, ?_, by unfold look; rw [if_pos rfl]⟩
   obtain ⟨q, hq⟩ := ej3
   exact ⟨q, by rw [← hjk, ej1]; exact hq⟩
  ·obtain ⟨k', a', e1, e2, e3, e4⟩ := hes e he
   refine ⟨k', a', e1, e2, e3, ?_⟩
   have hne' : k ≠ k' := fun e' => hne (by rw [e1, e'])
   unfold look at e4 ⊢
   rw [if_neg hne'] at e4 ⊢
   exact e4
 ·intro k' a' hk'
  rw [hlist]
  unfold look at hk'
  by_cases ek : k = k'
  ·subst ek
   exact hmem _ (List.mem_map.2 ⟨es[j], hmj, hjk⟩)
  ·rw [if_neg ek] at hk'
   obtain ⟨e1, he1, hk1⟩ := hl k' a' (by unfold look; rw [if_neg ek]; exact hk')
   exact hmem _ (List.mem_map.2 ⟨e1, he1, hk1⟩)
end
theorem blk_grown {w w' : World} {b g : Nat} {o : Obj} (h : w.grownBy w' (some b)) (hg : w.heap[g]? = some o) (hne : g ≠ b) : w'.heap[g]? = some o :=
 (h.block g (Array.getElem?_eq_some_iff.1 hg).1 (fun e => hne (by cases e; rfl))).trans hg
section
variable {P : Program} {kt e : TypeId}
end
end Go.Proofs.YtlofkjdcapbohaaGreatDoor.Mp
