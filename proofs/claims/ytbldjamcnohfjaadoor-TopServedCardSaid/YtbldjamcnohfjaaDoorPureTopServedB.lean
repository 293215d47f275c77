/- For TopServed: the address of a path leads back to it, and nothing of it is cut off or decoded. -/
import Derived.Test.YtbldjamcnohfjaaDoorPureTopServedA
namespace Go.Proofs.YtbldjamcnohfjaaDoor.Pure
open Go.RowKit Go.Proofs.YtbldjamcnohfjaaDoor.PTopServed Go.Proofs.YtbldjamcnohfjaaDoorW.PrintWords Go.Proofs.YtbldjamcnohfjaaDoorW.PrintLast Go.Proofs.YtbldjamcnohfjaaDoorW.PrintMore
set_option linter.unusedVariables false
set_option linter.unusedSimpArgs false
/-! ### Ends and beginnings -/
def sufB (a b : ByteArray) : Bool := decide (b.size ≤ a.size) && ((lst a).drop (a.size - b.size) == lst b)
theorem hsuf (a b : ByteArray) (h : a.size ≤ 1000000000000) : strings_HasSuffix.f a b = some (sufB a b) := by
  unfold strings_HasSuffix.f stringslite_HasSuffix.f sufB
  by_cases c : b.size ≤ a.size
  · rw [if_pos (by omega), w64 (by omega) (by omega), if_pos (by omega), if_pos (by omega), Option.bind_some, decide_eq_true c, Bool.true_and, lst_tl, lst_tl, lst_end]
    rw [show ((a.size : Int) - (b.size : Int)).toNat = a.size - b.size by omega]
  · rw [if_neg (by omega), Option.bind_some, decide_eq_false c, Bool.false_and]
theorem trim (a b : ByteArray) (h : a.size ≤ 1000000000000) : strings_TrimSuffix.f a b = some (if sufB a b = true then a.extract 0 (a.size - b.size) else a) := by
  have hs := hsuf a b h
  unfold strings_HasSuffix.f at hs
  obtain ⟨x, hx, e⟩ := Option.bind_eq_some_iff.1 hs
  injection e with e
  subst e
  unfold strings_TrimSuffix.f stringslite_TrimSuffix.f
  rw [hx, Option.bind_some]
  cases hb : sufB a b with
  | false => rw [if_neg (by decide), if_neg (by decide)]; rfl
  | true =>
    have hle : b.size ≤ a.size := by
      unfold sufB at hb
      rw [Bool.and_eq_true, decide_eq_true_eq] at hb
      exact hb.1
    rw [if_pos rfl, if_pos rfl, w64 (by omega) (by omega), if_pos (by omega), if_pos (by omega), Option.bind_some, show ((a.size : Int) - (b.size : Int)).toNat = a.size - b.size by omega]
theorem hpre (a b : ByteArray) (h : b.size ≤ a.size) : strings_HasPrefix.f a b = some ((lst a).take b.size == lst b) := by
  unfold strings_HasPrefix.f stringslite_HasPrefix.f
  rw [if_pos (by omega), if_pos (by omega), if_pos (by omega), Option.bind_some, lst_tl, lst_tl, lst_front, Int.toNat_natCast]
theorem suf_true {a b : ByteArray} (h : sufB a b = true) : ∃ N, lst a = N ++ lst b ∧ N.length = a.size - b.size := by
  unfold sufB at h
  rw [Bool.and_eq_true, decide_eq_true_eq, beq_iff_eq] at h
  refine ⟨(lst a).take (a.size - b.size), ?_, ?_⟩
  · rw [← h.2, List.take_append_drop]
  · rw [List.length_take, lst_len]; omega
theorem suf_of {a b : ByteArray} {N : List UInt8} (h : lst a = N ++ lst b) : sufB a b = true := by
  have hl := congrArg List.length h
  rw [List.length_append, lst_len, lst_len] at hl
  unfold sufB
  rw [Bool.and_eq_true, decide_eq_true_eq, beq_iff_eq]
  refine ⟨by omega, ?_⟩
  rw [h, show a.size - b.size = N.length by omega, List.drop_left]
/-! ### Addresses -/
abbrev slash : ByteArray := ⟨#[47]⟩
abbrev ix10 : ByteArray := ⟨#[105, 110, 100, 101, 120, 46, 104, 116, 109, 108]⟩
abbrev ix11 : ByteArray := ⟨#[47, 105, 110, 100, 101, 120, 46, 104, 116, 109, 108]⟩
def adr (p : ByteArray) : ByteArray := if sufB (slash ++ p) ix11 = true then (if sufB (slash ++ p) ix10 = true then (slash ++ p).extract 0 ((slash ++ p).size - ix10.size) else slash ++ p) else slash ++ p
theorem l_ix11 : lst ix11 = 47 :: lst ix10 := rfl
theorem l_slash : lst slash = [47] := rfl
theorem m_list (p : ByteArray) : lst (slash ++ p) = 47 :: lst p := by rw [lst_app, l_slash]; rfl
theorem m_size (p : ByteArray) : (slash ++ p).size = p.size + 1 := by rw [← lst_len, m_list, List.length_cons, lst_len]
/-- an address is a slash, and what is behind it: the path, or the path without its index -/
theorem adr_list (p : ByteArray) : ∃ q, lst (adr p) = 47 :: q ∧ ((lst p = q ++ lst ix10 ∧ (q = [] ∨ ∃ r, q = r ++ [47])) ∨ (sufB (slash ++ p) ix11 = false ∧ q = lst p)) := by
  unfold adr
  cases hb : sufB (slash ++ p) ix11 with
  | false => exact ⟨lst p, by rw [if_neg (by decide), m_list], .inr ⟨rfl, rfl⟩⟩
  | true =>
    obtain ⟨N, hN, hl⟩ := suf_true hb
    have h10 : sufB (slash ++ p) ix10 = true := suf_of (N := N ++ [47]) (by rw [hN, l_ix11, List.append_assoc]; rfl)
    rw [if_pos rfl, if_pos h10, lst_front]
    have hz : (slash ++ p).size - ix10.size = (N ++ [47]).length := by
      rw [List.length_append, List.length_singleton, hl, show ix11.size = 11 from rfl, show ix10.size = 10 from rfl]
      have := congrArg List.length hN
      rw [lst_len, List.length_append, lst_len, show ix11.size = 11 from rfl] at this
      omega
    have hcut : (lst (slash ++ p)).take ((slash ++ p).size - ix10.size) = N ++ [47] := by
      rw [hz, hN, l_ix11, show N ++ 47 :: lst ix10 = (N ++ [47]) ++ lst ix10 by rw [List.append_assoc]; rfl, List.take_left]
    rw [hcut]
    rw [m_list, l_ix11] at hN
    match N, hN with
    | [], h =>
      rw [List.nil_append] at h
      injection h with _ h
      exact ⟨[], rfl, .inl ⟨by rw [h]; rfl, .inl rfl⟩⟩
    | n :: N', h =>
      rw [List.cons_append] at h
      injection h with h1 h2
      subst h1
      exact ⟨N' ++ [47], rfl, .inl ⟨by rw [h2, List.append_assoc]; rfl, .inr ⟨N', rfl⟩⟩⟩
theorem adr_size {p : ByteArray} : (adr p).size ≤ p.size + 1 ∧ 1 ≤ (adr p).size := by
  obtain ⟨q, h, h2⟩ := adr_list p
  have := congrArg List.length h
  rw [lst_len, List.length_cons] at this
  rcases h2 with ⟨h2, _⟩ | ⟨_, h2⟩
  · have h3 := congrArg List.length h2
    rw [lst_len, List.length_append] at h3
    omega
  · rw [h2, lst_len] at this
    omega
theorem adr_bytes {p : ByteArray} (h : Good p) : ∀ c ∈ lst (adr p), Okp c := by
  obtain ⟨q, hq, h2⟩ := adr_list p
  intro c hc
  rw [hq] at hc
  rcases List.mem_cons.1 hc with rfl | hc
  · unfold Okp; decide
  · apply h.by'
    rcases h2 with ⟨h2, _⟩ | ⟨_, h2⟩
    · rw [h2]; exact List.mem_append_left _ hc
    · rw [← h2]; exact hc
theorem adr_ev {p : ByteArray} (h : Ev (fun k => ship_isPath.f k p) true) (hg : Good p) : Ev (fun k => ship_Address.f k p) (adr p, 0) := by
  have hsz := hg.sz
  unfold ship_Address.f
  refine Ev.bind h ?_
  have hm : ((⟨#[47]⟩ : ByteArray) ++ p).size = p.size + 1 := m_size p
  refine Ev.congr (f := fun _ => some (adr p, 0)) (fun k => ?_) (Ev.now _)
  rw [if_pos rfl, if_pos (by omega), hsuf _ _ (by omega), Option.bind_some]
  unfold adr
  cases hb : sufB (slash ++ p) ix11 with
  | false => rw [if_neg (by decide), if_neg (by decide)]
  | true => rw [if_pos rfl, if_pos rfl, trim _ _ (by omega), Option.bind_some]
theorem path_back {p : ByteArray} (h : Ev (fun k => ship_isPath.f k p) true) (hg : Good p) : Ev (fun k => ship_Path.f k (adr p)) (p, 0) := by
  obtain ⟨q, hq, h2⟩ := adr_list p
  have hsz := hg.sz
  have hz := adr_size (p := p)
  have hb : lst ((adr p).extract 1 (adr p).size) = q := by rw [lst_end, hq]; rfl
  have hpre1 : strings_HasPrefix.f (adr p) slash = some true := by
    rw [hpre _ _ (by show 1 ≤ _; omega), hq]; rfl
  generalize hbe : (adr p).extract 1 (adr p).size = b at *
  have hbs : b.size ≤ 201 := by
    have := congrArg List.length hq
    rw [lst_len, List.length_cons, ← hb, lst_len] at this
    omega
  have jt : lst p = q ++ lst ix10 → Ev (fun k => ship_Path.j0 k b true) (p, 0) := fun hp => by
    have e : b ++ ix10 = p := lst_inj (by rw [lst_app, hb, hp])
    refine Ev.step (f := fun k => (ship_isPath.f k p).bind fun t => if t = true then some (p, 0) else some ((⟨#[]⟩ : ByteArray), 3)) (fun k => ?_) (Ev.bind h (Ev.congr (fun k => if_pos rfl) (Ev.now (p, 0))))
    rw [ship_Path.j0, if_pos rfl, if_pos (by omega), e]
  unfold ship_Path.f
  refine Ev.congr (f := fun k => if b.toList = ([] : List UInt8) then (ship_Path.j0 k b true) else ((strings_HasSuffix.f b (⟨#[47]⟩ : ByteArray)).bind fun t137 => (ship_Path.j0 k b t137))) (fun k => by rw [hpre1, Option.bind_some, if_pos rfl, if_pos (by omega), hbe]) ?_
  rcases h2 with ⟨hp, h0 | ⟨r, hr⟩⟩ | ⟨_, hqp⟩
  · exact Ev.congr (fun k => if_pos (by rw [lst_tl, hb, h0])) (jt hp)
  · refine Ev.congr (f := fun k => ship_Path.j0 k b true) (fun k => ?_) (jt hp)
    have hs : sufB b slash = true := suf_of (N := r) (by rw [hb, hr, l_slash])
    rw [if_neg (by rw [lst_tl, hb, hr]; simp), hsuf _ _ (by omega), hs, Option.bind_some]
  · have e : b = p := lst_inj (by rw [hb, hqp])
    have hs : sufB b slash = false := by
      cases hb2 : sufB b slash with
      | false => rfl
      | true =>
        obtain ⟨N, hN, _⟩ := suf_true hb2
        rw [e, l_slash] at hN
        exact absurd hN (hg.nd N)
    refine Ev.congr (f := fun k => ship_Path.j0 k p false) (fun k => ?_) ?_
    · rw [if_neg (by rw [lst_tl, e]; exact hg.ne), hsuf _ _ (by omega), hs, Option.bind_some, e]
    · refine Ev.step (f := fun k => (ship_isPath.f k p).bind fun t => if t = true then some (p, 0) else some ((⟨#[]⟩ : ByteArray), 3)) (fun k => ?_) (Ev.bind h (Ev.congr (fun k => if_pos rfl) (Ev.now (p, 0))))
      rw [ship_Path.j0, if_neg (by decide)]
theorem index_none {c : UInt8} : ∀ {L : List UInt8}, c ∉ L → Lib.indexByte L c = -1
  | [], _ => rfl
  | x :: L, h => by
    simp only [List.mem_cons, not_or] at h
    have ih := index_none (L := L) h.2
    unfold Lib.indexByte
    rw [if_neg (by simpa using fun e => h.1 e.symm), ih]
    rfl
theorem cut_none {a : ByteArray} {c : Int} {u : UInt8} (hu : c.toNat.toUInt8 = u) (h : u ∉ lst a) : ship_cutAt.f a c = some (a, ⟨#[]⟩) := by
  unfold ship_cutAt.f strings_IndexByte.f
  rw [Option.bind_some, hu, show Lib.indexByte a.data.toList u = -1 from index_none h, if_neg (by decide)]
/-- the key of a path's address -/
def keyOf (p : ByteArray) : ByteArray := if sufB (adr p) slash = true then (adr p).extract 0 ((adr p).size - slash.size) else adr p
theorem keyOf_size (p : ByteArray) : (keyOf p).size ≤ (adr p).size := by
  unfold keyOf
  split
  · rw [ByteArray.size_extract]; omega
  · exact Nat.le_refl _
theorem key_ev {p : ByteArray} (h : Ev (fun k => ship_isPath.f k p) true) (hg : Good p) : Ev (fun k => ship_key.f k (adr p)) (keyOf p, true) := by
  have hz := adr_size (p := p)
  have hsz := hg.sz
  unfold ship_key.f
  refine Ev.bind (path_back h hg) ?_
  refine Ev.congr (fun k => if_pos rfl) ?_
  refine Ev.bind (adr_ev h hg) ?_
  refine Ev.congr (f := fun _ => some (keyOf p, true)) (fun k => ?_) (Ev.now _)
  show (strings_TrimSuffix.f (adr p) (⟨#[47]⟩ : ByteArray)).bind _ = _
  rw [trim _ _ (by omega), Option.bind_some]
  rfl
/-- all that Serve asks of an address -/
theorem req_ev {p : ByteArray} (h : Ev (fun k => ship_isPath.f k p) true) (hg : Good p) : ∃ K, ∀ k, K ≤ k → Req k (adr p) p := by
  obtain ⟨K1, h1⟩ := path_back h hg
  obtain ⟨K2, h2⟩ := key_ev h hg
  have hz := adr_size (p := p)
  have hks := keyOf_size p
  have hsz := hg.sz
  have hbytes := adr_bytes hg
  obtain ⟨q, hq, _⟩ := adr_list p
  refine ⟨K1 + K2, fun k hk => ⟨?_, ⟨_, cut_none (u := 35) rfl (fun hc => (hbytes _ hc).1 rfl)⟩, ⟨_, cut_none (u := 63) rfl (fun hc => (hbytes _ hc).2.2 rfl)⟩, fun i hi e => ?_, h1 k (by omega), ⟨_, hsuf _ _ (by omega)⟩, ⟨_, _, h2 k (by omega), Nat.le_trans (show (keyOf p).size ≤ 1000 by omega) (by decide)⟩, by omega, by omega⟩⟩
  · rw [hpre _ _ (by show 1 ≤ _; omega), hq]; rfl
  · rw [bt_lst (by rw [lst_len]; exact hi)] at e
    have hm := hbytes _ (List.getElem_mem (show i < (lst (adr p)).length by rw [lst_len]; exact hi))
    exact hm.2.1 (UInt8.toNat_inj.1 (by have : ((37 : UInt8).toNat : Int) = 37 := rfl; omega))
end Go.Proofs.YtbldjamcnohfjaaDoor.Pure
