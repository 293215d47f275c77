/- What a datum holds bounds how deep it is: a reading that is had with any fuel is had with its bulk. No condition. -/
import Derived.Test.YtilmjckpphlniaaDoorRows
import Derived.DataReads
import Derived.DataShut
namespace Go.Proofs.YtilmjckpphlniaaDoor.Bulk
open Go.Proofs.YtilmjckpphlniaaDoor.Rows
set_option linter.unusedVariables false
theorem mapM_lift {α β : Type} {f g : α → Option β} {l : List α} {r : List β} (h : l.mapM f = some r) (k : ∀ a, a ∈ l → ∀ b, b ∈ r → f a = some b → g a = some b) : l.mapM g = some r := by
  refine mapM_some_of_get l r (mapM_some_length h) (fun i x hx => ?_)
  have h1 := mapM_some_get h i x hx
  have hi : i < r.length := by rw [mapM_some_length h]; exact (List.getElem?_eq_some_iff.1 hx).1
  rw [List.getElem?_eq_getElem hi] at h1 ⊢
  exact k x (List.mem_of_getElem? hx) _ (List.getElem_mem hi) h1
section
variable {H : Type}
theorem bulk_pos : ∀ (d : DataW H), 1 ≤ uptoBulk d := fun d => by
  cases d with
  | lit l => cases l <;> simp [uptoBulk]
  | nil => simp [uptoBulk]
  | ptr d => simp [uptoBulk]
  | slice a b => simp [uptoBulk]
  | agg a => simp [uptoBulk]
  | iface n d => simp [uptoBulk]
  | map e => simp [uptoBulk]
  | held e => simp [uptoBulk]
theorem bulk_mem : ∀ (l : List (DataW H)) (d : DataW H), d ∈ l → uptoBulk d ≤ uptoBulkAll l
  | a :: l, d, h => by
    rw [uptoBulkAll]
    rcases List.mem_cons.1 h with rfl | h
    · omega
    · have := bulk_mem l d h; omega
end
/-- types that are told by words, slices and structs alone -/
def Flat (P : Program) (ok : TypeId → Prop) : Prop := ∀ t, ok t → match P.underlying t with
  | some (.slice e) => ok e
  | some (.struct fs) => ∀ f ∈ fs.toList, ok f.type
  | some (.pointer _) | some (.array _ _) | some (.interface _) | some (.map _ _) => False
  | _ => True
theorem trod_cut {H : Type} (enc : TypeId × Value → H) (P : Program) (w : World) (base : Nat) (spare : Nat → Bool) (held : Bool) (ok : TypeId → Prop) (hok : Flat P ok) : ∀ (fuel : Nat) (t : TypeId) (cs : List Value) (x : DataW H × List MemPlace),
    ok t → DataW.trod enc P w base spare held fuel t cs = some x → ∀ f', uptoBulk x.1 ≤ f' → DataW.trod enc P w base spare held f' t cs = some x := by
  intro fuel
  induction fuel with
  | zero => intro t cs x _ h; simp [DataW.trod] at h
  | succ n ih =>
    intro t cs x ht h f' hf
    have hk := hok t ht
    have hp := bulk_pos x.1
    obtain ⟨f', rfl⟩ : ∃ m, f' = m + 1 := ⟨f' - 1, by omega⟩
    rw [DataW.trod.eq_def] at h ⊢
    dsimp only at h ⊢
    split at h
    all_goals (rename_i hU; try simp only [hU])
    all_goals (try simp only [hU] at hk)
    all_goals first
      | exact h
      | (cases h; done)
      | exact hk.elim
      | skip
    · split at h
      case isFalse => cases h
      rename_i hc
      rw [if_pos hc]
      obtain ⟨elems, he, h⟩ := Option.bind_eq_some_iff.1 h
      obtain ⟨rest, hr, h⟩ := Option.map_eq_some_iff.1 h
      subst h
      simp only [uptoBulk] at hf
      have sub : ∀ (l : List (DataW H × List MemPlace)) (b : DataW H × List MemPlace), b ∈ l → uptoBulk b.1 ≤ uptoBulkAll (l.map (·.1)) := fun l b hb => bulk_mem _ _ (List.mem_map_of_mem hb)
      have one : ∀ (l : List (DataW H × List MemPlace)) (b : DataW H × List MemPlace) (i : Nat) (e : TypeId) (a : Addr), ok e → b ∈ l → uptoBulkAll (l.map (·.1)) ≤ f' → ((w.cells? base (a.add (i * P.cellsOf e)) (P.cellsOf e)).bind (DataW.trod enc P w base spare held n e)) = some b → ((w.cells? base (a.add (i * P.cellsOf e)) (P.cellsOf e)).bind (DataW.trod enc P w base spare held f' e)) = some b := by
        intro l b i e a hke hb hle hx
        obtain ⟨c, hc, hx⟩ := Option.bind_eq_some_iff.1 hx
        exact Option.bind_eq_some_iff.2 ⟨c, hc, ih _ _ _ hke hx _ (Nat.le_trans (sub l b hb) hle)⟩
      refine Option.bind_eq_some_iff.2 ⟨elems, mapM_lift he (fun i _ b hb hx => one elems b i _ _ hk hb (by omega) hx), Option.map_eq_some_iff.2 ⟨rest, ?_, rfl⟩⟩
      split at hr
      · rename_i hs
        rw [if_pos hs]
        exact mapM_lift hr (fun j _ b hb hx => one rest b _ _ _ hk hb (by omega) hx)
      · rename_i hs
        rw [if_neg hs]
        exact hr
    · split at h
      case isFalse => cases h
      rename_i hc
      rw [if_pos hc]
      obtain ⟨xs, hx, h⟩ := Option.map_eq_some_iff.1 h
      subst h
      simp only [uptoBulk] at hf
      refine Option.map_eq_some_iff.2 ⟨xs, mapM_lift hx (fun f hfm b hb hx1 => ih _ _ _ (hk f hfm) hx1 _ ?_), rfl⟩
      have := bulk_mem _ _ (List.mem_map_of_mem (f := (·.1)) hb)
      omega
end Go.Proofs.YtilmjckpphlniaaDoor.Bulk
