/- For ConfMends: what put and remove make of a table, told by its keys and items in order; changes along paths of keys. For ConfMends: values that compare as zero are equal; a checked table has nothing but its items; what is in a checked value is a checked value. For ConfMends: what diff finds makes the one value of the other one. For ConfMends: the changes of two tables, key by key, make the one of the other. For ConfMends: Apply of Diff makes the one value of the other one. ConfMends: the law, of what the walk computes. -/
import Derived.Test.YtlofkjdcapbohaaGreatDoorPureConfFillsB
import Derived.Test.YtlofkjdcapbohaaGreatDoorCfZB
namespace Go.Proofs.YtlofkjdcapbohaaGreatDoor.Pure
open Go.RowKit Go.Proofs.YtlofkjdcapbohaaGreatDoor.PConfKeeps Go.Proofs.YtlofkjdcapbohaaGreatDoorW.PrintWords Go.Proofs.YtlofkjdcapbohaaGreatDoorW.PrintLast Go.Proofs.YtlofkjdcapbohaaGreatDoorW.PrintMore
set_option linter.unusedVariables false
set_option linter.unusedSimpArgs false
abbrev kl (a b : ByteArray) : Prop := Op.bytesLess a.toList b.toList = true
theorem kl_trans {a b c : ByteArray} (h : kl a b) (k : kl b c) : kl a c := sl_lt.2 (List.lt_trans (sl_lt.1 h) (sl_lt.1 k))
theorem kl_irr (a : ByteArray) : ¬ kl a a := fun h => List.lt_irrefl _ (sl_lt.1 h)
theorem kl_asym {a b : ByteArray} (h : kl a b) : Op.bytesLess b.toList a.toList = false := by
 cases hq : Op.bytesLess b.toList a.toList with
 | false => rfl
 | true => exact absurd (kl_trans h hq) (kl_irr a)
/-- keys with their items, in order -/
abbrev AL := List (ByteArray × S25)
def ksort (l : AL) : Prop := l.Pairwise (fun a b => kl a.1 b.1)
/-- the table of these keys and items -/
def tbl (l : AL) : S25 := ⟨6, false, 0, ⟨#[]⟩, l.map (·.2), l.map (·.1)⟩
theorem tbl_srt {l : AL} (h : ksort l) : Srt (tbl l).f5 := by
 unfold Srt tbl
 exact List.pairwise_map.2 h
theorem find_mid {pre post : AL} {key : ByteArray} {x : S25} (hs : ksort (pre ++ (key, x) :: post)) (hl : (pre ++ (key, x) :: post).length ≤ 100000) (a1 : Bool) (a2 : Int) (a3 : ByteArray) :
  conf_find.f 6 a1 a2 a3 (tbl (pre ++ (key, x) :: post)).f4 (tbl (pre ++ (key, x) :: post)).f5 key = some ((pre.length : Int), true) := by
 refine find_at ⟨6, a1, a2, a3, (tbl (pre ++ (key, x) :: post)).f4, (tbl (pre ++ (key, x) :: post)).f5⟩ key pre.length ?_ (tbl_srt hs) ?_ ?_
 ·show pre.length < ((pre ++ (key, x) :: post).map (·.1)).length
  rw [List.length_map, List.length_append, List.length_cons]; omega
 ·show ((pre ++ (key, x) :: post).map (·.1))[pre.length]'_ = key
  rw [List.getElem_map, List.getElem_append_right (Nat.le_refl _)]
  simp
 ·show ((pre ++ (key, x) :: post).map (·.1)).length ≤ _
  rw [List.length_map]; omega
theorem find_gap {pre post : AL} {key : ByteArray} (h0 : ∀ a ∈ pre, kl a.1 key) (h1 : ∀ a ∈ post, kl key a.1) (hl : (pre ++ post).length ≤ 100000) (a0 : Int) (a1 : Bool) (a2 : Int) (a3 : ByteArray) :
  conf_find.f a0 a1 a2 a3 (tbl (pre ++ post)).f4 (tbl (pre ++ post)).f5 key = some ((pre.length : Int), false) := by
 have e5 : (tbl (pre ++ post)).f5 = (pre ++ post).map (·.1) := rfl
 have hlen : ((pre ++ post).map (·.1)).length = pre.length + post.length := by rw [List.length_map, List.length_append]
 rw [List.length_append] at hl
 rw [e5]
 have h : srch (geqAt ((pre ++ post).map (·.1)) key) ((pre ++ post).map (·.1)).length 0 ((pre ++ post).map (·.1)).length = pre.length := by
  refine srch_at _ pre.length ((pre ++ post).map (·.1)).length (fun j hj => ?_) (fun j g1 g2 => ?_) _ _ _ (Nat.zero_le _) (by omega) (Nat.le_refl _) (by omega)
  ·unfold geqAt
   have hjl : j < ((pre ++ post).map (·.1)).length := by omega
   rw [rdOf_at hjl, List.getElem_map, List.getElem_append_left hj, h0 _ (List.getElem_mem hj)]; rfl
  ·unfold geqAt
   rw [rdOf_at g2, List.getElem_map, List.getElem_append_right g1, kl_asym (h1 _ (List.getElem_mem _))]; rfl
 unfold conf_find.f sort_SearchStrings.f
 rw [if_pos (by omega), h, Option.bind_some]
 by_cases c : pre.length < ((pre ++ post).map (·.1)).length
 ·rw [if_pos (by omega), if_pos (by omega), rdOf_at c, List.getElem_map, List.getElem_append_right (Nat.le_refl _)]
  have hm : (post[pre.length - pre.length]'(by rw [hlen] at c; omega)) ∈ post := List.getElem_mem _
  have hne : (post[pre.length - pre.length]'(by rw [hlen] at c; omega)).1.toList ≠ key.toList := fun he => by
   have := h1 _ hm
   unfold kl at this
   rw [he] at this
   exact kl_irr key this
  simpa using hne
 ·rw [if_neg (by omega)]
/-! ### put and remove -/
theorem put_mid {pre post : AL} {key : ByteArray} {x : S25} (y : S25) (hs : ksort (pre ++ (key, x) :: post)) (hl : (pre ++ (key, x) :: post).length ≤ 100000) :
  cput (tbl (pre ++ (key, x) :: post)) key y = some (tbl (pre ++ (key, y) :: post)) := by
 unfold cput
 rw [show (tbl (pre ++ (key, x) :: post)).f0 = 6 from rfl, find_mid hs hl, Option.bind_some]
 dsimp only
 have l4 : (tbl (pre ++ (key, x) :: post)).f4.length = (pre ++ (key, x) :: post).length := by unfold tbl; rw [List.length_map]
 have l5 : (tbl (pre ++ (key, x) :: post)).f5.length = (pre ++ (key, x) :: post).length := by unfold tbl; rw [List.length_map]
 have hl2 : (pre ++ (key, x) :: post).length = pre.length + post.length + 1 := by rw [List.length_append, List.length_cons]; omega
 rw [if_pos ⟨by omega, by omega, by omega, by omega, by omega, fun _ => ⟨by omega, by omega⟩⟩, if_pos rfl, Int.toNat_natCast]
 unfold tbl
 simp [List.take_append, List.drop_append, List.map_append]
theorem put_gap {pre post : AL} {key : ByteArray} (y : S25) (h0 : ∀ a ∈ pre, kl a.1 key) (h1 : ∀ a ∈ post, kl key a.1) (hl : (pre ++ post).length ≤ 100000) :
  cput (tbl (pre ++ post)) key y = some (tbl (pre ++ (key, y) :: post)) := by
 unfold cput
 rw [find_gap h0 h1 hl, Option.bind_some]
 dsimp only
 have l4 : (tbl (pre ++ post)).f4.length = (pre ++ post).length := by unfold tbl; rw [List.length_map]
 have l5 : (tbl (pre ++ post)).f5.length = (pre ++ post).length := by unfold tbl; rw [List.length_map]
 have hl2 : (pre ++ post).length = pre.length + post.length := List.length_append
 rw [if_pos ⟨by omega, by omega, by omega, by omega, by omega, fun h_ => by cases h_⟩, if_neg (by decide), Int.toNat_natCast]
 unfold tbl
 simp [List.take_append, List.drop_append, List.map_append]
/-- a step along a key -/
def ks (key : ByteArray) : S95 := ⟨key, 0, false⟩
def pset (p : List ByteArray) (v x : S25) : Option S25 := (cset (p.map ks) v x).bind fun y => if y.2 = 0 then some y.1 else none
def prem (p : List ByteArray) (v : S25) : Option S25 := crem (p.map ks) v
theorem tl_nil {key : ByteArray} (h : key.toList ≠ []) : (ks key).f0.toList ≠ [] := h
theorem rd_mid (pre post : AL) (key : ByteArray) (x : S25) : rd_T25 (tbl (pre ++ (key, x) :: post)).f4 (pre.length : Int) = x := by
 unfold rd_T25 tbl
 rw [Int.toNat_natCast, List.getD_eq_getElem?_getD, List.getElem?_map, List.getElem?_append_right (Nat.le_refl _), Nat.sub_self]
 rfl
theorem rem_mid {pre post : AL} {key : ByteArray} {x : S25} (hk : key.toList ≠ []) (hs : ksort (pre ++ (key, x) :: post)) (hl : (pre ++ (key, x) :: post).length ≤ 100000) (p : List ByteArray) :
  prem (key :: p) (tbl (pre ++ (key, x) :: post)) = if p = [] then some (tbl (pre ++ post)) else (prem p x).map (fun y => tbl (pre ++ (key, y) :: post)) := by
 unfold prem
 rw [List.map_cons, crem, if_neg (fun h_ => h_.elim hk (fun h_ => h_ rfl))]
 show (conf_find.f 6 _ _ _ _ _ key).bind _ = _
 rw [find_mid hs hl, Option.bind_some]
 dsimp only
 have l4 : (tbl (pre ++ (key, x) :: post)).f4.length = (pre ++ (key, x) :: post).length := by unfold tbl; rw [List.length_map]
 have l5 : (tbl (pre ++ (key, x) :: post)).f5.length = (pre ++ (key, x) :: post).length := by unfold tbl; rw [List.length_map]
 have hl2 : (pre ++ (key, x) :: post).length = pre.length + post.length + 1 := by rw [List.length_append, List.length_cons]; omega
 rw [if_pos ⟨rfl, by omega, by omega, by omega, by omega, by omega⟩, Int.toNat_natCast, rd_mid]
 by_cases c : p = []
 ·subst c
  simp only [List.map_nil, ↓reduceIte]
  unfold tbl
  simp [List.eraseIdx_append_of_length_le, List.take_append, List.drop_append, List.map_append]
 ·rw [if_neg c, if_neg (by simpa using c)]
  cases crem (p.map ks) x with
  | none => rfl
  | some y =>
   unfold tbl
   simp [List.set_append, List.map_append]
theorem set_mid {pre post : AL} {key : ByteArray} {x : S25} (hk : key.toList ≠ []) (hs : ksort (pre ++ (key, x) :: post)) (hl : (pre ++ (key, x) :: post).length ≤ 100000) (p : List ByteArray) (y : S25) :
  pset (key :: p) (tbl (pre ++ (key, x) :: post)) y = (pset p x y).map (fun z => tbl (pre ++ (key, z) :: post)) := by
 unfold pset
 have l4 : (tbl (pre ++ (key, x) :: post)).f4.length = (pre ++ (key, x) :: post).length := by unfold tbl; rw [List.length_map]
 have hl2 : (pre ++ (key, x) :: post).length = pre.length + post.length + 1 := by rw [List.length_append, List.length_cons]; omega
 have hf : cfollow (tbl (pre ++ (key, x) :: post)) (ks key) = some (x, true) := by
  unfold cfollow
  rw [if_neg (tl_nil hk), if_pos (show (tbl (pre ++ (key, x) :: post)).f0 = 6 from rfl)]
  show (conf_find.f 6 _ _ _ _ _ key).bind _ = _
  rw [find_mid hs hl, Option.bind_some]
  dsimp only
  rw [if_pos rfl, if_pos (by omega), if_pos (by omega), rd_mid]
 have hkd : ckind (ks key) = 6 := if_neg (tl_nil hk)
 have hcv : cval (tbl (pre ++ (key, x) :: post)) 6 = tbl (pre ++ (key, x) :: post) := if_neg (by show ¬ (6 : Int) = 0; decide)
 rw [List.map_cons, cset, hkd, hcv, cset1, if_pos (show (tbl (pre ++ (key, x) :: post)).f0 = 6 from rfl), if_neg (fun h_ => absurd h_.1 (by decide)), cset2, hf, Option.bind_some]
 dsimp only
 cases cset (p.map ks) x y with
 | none => rfl
 | some r =>
  rw [Option.bind_some, Option.bind_some]
  by_cases c : r.2 = 0
  ·rw [if_pos c, if_pos c, cset3, if_pos rfl]
   show ((cput _ key r.1).bind _).bind _ = _
   rw [put_mid r.1 hs hl]
   rfl
  ·rw [if_neg c, if_neg c]
   show (if r.2 = 0 then _ else _) = _
   rw [if_neg c]; rfl
theorem set_gap {pre post : AL} {key : ByteArray} (hk : key.toList ≠ []) (h0 : ∀ a ∈ pre, kl a.1 key) (h1 : ∀ a ∈ post, kl key a.1) (hl : (pre ++ post).length ≤ 100000) (y : S25) :
  pset [key] (tbl (pre ++ post)) y = some (tbl (pre ++ (key, y) :: post)) := by
 unfold pset
 have hf : cfollow (tbl (pre ++ post)) (ks key) = some (z25, false) := by
  unfold cfollow
  rw [if_neg (tl_nil hk), if_pos (show (tbl (pre ++ post)).f0 = 6 from rfl)]
  show (conf_find.f _ _ _ _ _ _ key).bind _ = _
  rw [find_gap h0 h1 hl, Option.bind_some]
  dsimp only
  rw [if_neg (by decide)]
 have hkd : ckind (ks key) = 6 := if_neg (tl_nil hk)
 have hcv : cval (tbl (pre ++ post)) 6 = tbl (pre ++ post) := if_neg (by show ¬ (6 : Int) = 0; decide)
 rw [List.map_cons, List.map_nil, cset, hkd, hcv, cset1, if_pos (show (tbl (pre ++ post)).f0 = 6 from rfl), if_neg (fun h_ => absurd h_.1 (by decide)), cset2, hf, Option.bind_some]
 dsimp only
 rw [cset, Option.bind_some]
 dsimp only
 rw [if_pos rfl, cset3, if_pos rfl]
 show ((cput _ key y).bind _).bind _ = _
 rw [put_gap y h0 h1 hl]
 rfl
/-! ### Changes along paths -/
/-- a change along a path: none: gone; some x: x is put -/
abbrev PC := List ByteArray × Option S25
def pap1 (c : PC) (v : S25) : Option S25 := match c.2 with
 | none => prem c.1 v
 | some x => pset c.1 v x
def papp : List PC → S25 → Option S25
 | [], v => some v
 | c :: l, v => (pap1 c v).bind (papp l)
theorem papp_append (l m : List PC) (v : S25) : papp (l ++ m) v = (papp l v).bind (papp m) := by
 induction l generalizing v with
 | nil => rfl
 | cons c l ih =>
  rw [List.cons_append, papp, papp]
  cases pap1 c v with
  | none => rfl
  | some y => rw [Option.bind_some, Option.bind_some, ih]
/-- the changes below a key -/
def under (key : ByteArray) (l : List PC) : List PC := l.map fun c => (key :: c.1, c.2)
theorem papp_under {pre post : AL} {key : ByteArray} (hk : key.toList ≠ []) : ∀ (l : List PC) (x : S25), (∀ c ∈ l, c.2 = none → c.1 ≠ []) → ksort (pre ++ (key, x) :: post) → (pre ++ (key, x) :: post).length ≤ 100000 →
  papp (under key l) (tbl (pre ++ (key, x) :: post)) = (papp l x).map (fun y => tbl (pre ++ (key, y) :: post))
 | [], x, _, _, _ => rfl
 | c :: l, x, hc, hs, hl => by
  have h1 : pap1 (key :: c.1, c.2) (tbl (pre ++ (key, x) :: post)) = (pap1 c x).map (fun y => tbl (pre ++ (key, y) :: post)) := by
   unfold pap1
   cases h2 : c.2 with
   | none =>
    dsimp only
    rw [rem_mid hk hs hl, if_neg (hc c (List.mem_cons_self ..) h2)]
   | some y =>
    dsimp only
    rw [set_mid hk hs hl]
  show (pap1 (key :: c.1, c.2) _).bind _ = _
  rw [h1, papp]
  cases hp : pap1 c x with
  | none => rfl
  | some y =>
   rw [Option.map_some, Option.bind_some, Option.bind_some]
   refine papp_under hk l y (fun d hd => hc d (List.mem_cons_of_mem _ hd)) ?_ ?_
   ·unfold ksort at hs ⊢
    rw [List.pairwise_append] at hs ⊢
    refine ⟨hs.1, ?_, fun a ha b hb => ?_⟩
    ·rw [List.pairwise_cons] at hs ⊢
     exact hs.2.1
    ·rcases List.mem_cons.1 hb with rfl | hb
     ·exact hs.2.2 a ha (key, x) (List.mem_cons_self ..)
     ·exact hs.2.2 a ha b (List.mem_cons_of_mem _ hb)
   ·rw [List.length_append, List.length_cons] at hl ⊢; exact hl
end Go.Proofs.YtlofkjdcapbohaaGreatDoor.Pure
namespace Go.Proofs.YtlofkjdcapbohaaGreatDoor.Pure
open Go.RowKit Go.Proofs.YtlofkjdcapbohaaGreatDoor.PConfKeeps Go.Proofs.YtlofkjdcapbohaaGreatDoorW.PrintWords Go.Proofs.YtlofkjdcapbohaaGreatDoorW.PrintLast Go.Proofs.YtlofkjdcapbohaaGreatDoorW.PrintMore
set_option linter.unusedVariables false
set_option linter.unusedSimpArgs false
/-! ### Compare -/
theorem lex_zero {a b : Int} (h : Ord.lex a b = 0) : a = 0 ∧ b = 0 := by
 unfold Ord.lex at h
 split at h
 ·rename_i h0; exact ⟨h0, h⟩
 ·rename_i h0; exact absurd h h0
theorem sg_zero {a b : Int} (h : Ord.sg a b = 0) : a = b := by
 unfold Ord.sg at h
 split at h
 ·cases h
 ·split at h
  ·cases h
  ·omega
theorem cmpList_zero {α : Type} {c : α → α → Int} : ∀ (xs ys : List α), Ord.cmpList c xs ys = 0 → (∀ x ∈ xs, ∀ y ∈ ys, c x y = 0 → x = y) → xs = ys
 | [], [], _, _ => rfl
 | [], _ :: _, h, _ => by rw [Ord.cmpList] at h; cases h
 | _ :: _, [], h, _ => by rw [Ord.cmpList] at h; cases h
 | a :: xs, b :: ys, h, hc => by
  rw [Ord.cmpList] at h
  obtain ⟨h1, h2⟩ := lex_zero h
  rw [hc a (List.mem_cons_self ..) b (List.mem_cons_self ..) h1, cmpList_zero xs ys h2 (fun x hx y hy => hc x (List.mem_cons_of_mem _ hx) y (List.mem_cons_of_mem _ hy))]
theorem cb_zero {a b : ByteArray} (h : Ord.cb a b = 0) : a = b := by
 unfold Ord.cb at h
 rw [Ord.bytes_eq] at h
 refine bytes_ext (cmpList_zero _ _ h (fun x _ y _ hxy => ?_))
 unfold Ord.byteCmp at hxy
 have := sg_zero hxy
 exact UInt8.toNat_inj.1 (by omega)
theorem bi_inj {a b : Bool} (h : Ord.bi a = Ord.bi b) : a = b := by
 cases a <;> cases b <;> first | rfl | (exact absurd h (by decide))
theorem cv_zero : ∀ (d : Nat) (x y : S25), Ord.Fits d x → Ord.cv d x y = 0 → x = y
 | 0, _, _, h, _ => h.elim
 | d + 1, x, y, hx, h => by
  rw [Ord.cv] at h
  obtain ⟨h0, h⟩ := lex_zero h
  obtain ⟨h1, h⟩ := lex_zero h
  obtain ⟨h2, h⟩ := lex_zero h
  obtain ⟨h3, h⟩ := lex_zero h
  obtain ⟨h5, h4⟩ := lex_zero h
  have e4 := cmpList_zero x.f4 y.f4 h4 (fun a ha b _ hab => cv_zero d a b (hx.2.2 a ha) hab)
  have e5 := cmpList_zero x.f5 y.f5 h5 (fun a _ b _ hab => cb_zero hab)
  have e0 := sg_zero h0
  have e1 := bi_inj (sg_zero h1)
  have e2 := sg_zero h2
  have e3 := cb_zero h3
  cases x; cases y
  dsimp only at e0 e1 e2 e3 e4 e5
  rw [e0, e1, e2, e3, e4, e5]
theorem ev_mono {α : Type} {g : Nat → Option α} (hm : ∀ k, LeO (g k) (g (k + 1))) {k : Nat} {r : α} (h : g k = some r) : Ev g r := by
 refine ⟨k, fun j hj => ?_⟩
 obtain ⟨d, rfl⟩ : ∃ d, j = k + d := ⟨j - k, by omega⟩
 clear hj
 induction d with
 | zero => exact h
 | succ d ih => exact hm _ _ ih
theorem cmp_ev {d : Nat} {x : S25} (hx : Ord.Fits d x) (y : S25) : Ev (fun k => Fcm k x y) (Ord.cv d x y) := by
 obtain ⟨k, hk⟩ := Ord.f_at d x y hx
 exact ev_mono (g := fun k => Fcm k x y) (fun k => (conf_Compare.mono_l k).1 _ _ _ _ _ _ _ _ _ _ _ _) hk
/-! ### A checked table has nothing besides -/
theorem unused6 {k : Nat} {a1 : Bool} {a2 : Int} {a3 : ByteArray} {l4 : List S25} {l5 : List ByteArray} (h : conf_unused.f k 6 a1 a2 a3 l4 l5 = some false) : a1 = false ∧ a2 = 0 ∧ a3 = ⟨#[]⟩ := by
 have j1 : ∀ {k x z b s}, conf_unused.j1 k 6 x z b a2 s l4 l5 = some false → x = false := by
  intro k x z b s h
  cases k with
  | zero => rw [conf_unused.j1] at h; cases h
  | succ k =>
   rw [conf_unused.j1] at h
   split at h
   ·cases h
   ·rename_i hx; simpa using hx
 have j0 : ∀ {k x z b}, conf_unused.j0 k 6 x z b a2 a3 l4 l5 = some false → x = false ∧ a2 = 0 ∧ a3.toList = [] := by
  intro k x z b h
  cases k with
  | zero => rw [conf_unused.j0] at h; cases h
  | succ k =>
   rw [conf_unused.j0] at h
   split at h
   ·exact absurd (j1 h) (by rename_i hx; simp [hx])
   ·rename_i hx
    split at h
    ·rename_i h2
     split at h
     ·rename_i h3
      exact ⟨by simpa using hx, h2, h3⟩
     ·exact absurd (j1 h) (by decide)
    ·rw [if_neg (by decide), if_neg (by decide)] at h
     exact absurd (j1 h) (by decide)
 unfold conf_unused.f at h
 have e3 : ∀ {s : ByteArray}, s.toList = [] → s = ⟨#[]⟩ := fun {s} hs => tl_inj (by rw [hs, tl_eq])
 split at h
 ·exact absurd (j0 h).1 (by decide)
 ·rename_i hb
  exact ⟨by simpa using hb, (j0 h).2.1, e3 (j0 h).2.2⟩
theorem value6 {k : Nat} {x : S25} (h6 : x.f0 = 6) (h : conf_valueFault.f k x.f0 x.f1 x.f2 x.f3 x.f4 x.f5 = some 0) : x.f1 = false ∧ x.f2 = 0 ∧ x.f3 = ⟨#[]⟩ := by
 have j0 : ∀ {k b}, conf_valueFault.j0 k b x.f0 x.f1 x.f2 x.f3 x.f4 x.f5 = some 0 → x.f1 = false ∧ x.f2 = 0 ∧ x.f3 = ⟨#[]⟩ := by
  intro k b h
  cases k with
  | zero => rw [conf_valueFault.j0] at h; cases h
  | succ k =>
   rw [conf_valueFault.j0] at h
   split at h
   ·cases h
   ·obtain ⟨u, hu, h⟩ := Option.bind_eq_some_iff.1 h
    cases u with
    | true => rw [if_pos rfl] at h; cases h
    | false => rw [h6] at hu; exact unused6 hu
 unfold conf_valueFault.f at h
 split at h
 ·exact j0 h
 ·exact j0 h
/-! ### What is in a checked value is one -/
def CK (x : S25) : Prop := Ev (fun k => Fck k x) 0
theorem count_in (n : Nat) (hn : n ≤ 4194304) (l : List S25) (hl : l.length ≤ 140737488351232) (hf : ∀ x ∈ l, Fits n x) : ∀ (d i : Nat), i + d = l.length → ∀ (k : Nat) (acc c : Int), 0 ≤ acc → conf_count.l0 k acc l (l.length : Int) (i : Int) = some c → c ≤ 1000 → acc ≤ c ∧ ∀ j (hj : j < l.length), i ≤ j → ∃ k' c', cntF k' l[j] = some c' ∧ c' ≤ 1000
 | 0, i, hi, k, acc, c, h0, h, hc => by
  cases k with
  | zero => rw [conf_count.l0] at h; cases h
  | succ k =>
   rw [conf_count.l0, if_neg (by omega)] at h
   injection h with h
   exact ⟨by omega, fun j hj hij => by omega⟩
 | d + 1, i, hi, k, acc, c, h0, h, hc => by
  have hlt : i < l.length := by omega
  cases k with
  | zero => rw [conf_count.l0] at h; cases h
  | succ k =>
   rw [conf_count.l0, if_pos (by omega), if_pos (by omega), if_pos (by omega), rd25_at hlt, w1 hlt (by omega)] at h
   split at h
   ·injection h with h; omega
   rename_i ha
   obtain ⟨t, ht, h⟩ := Option.bind_eq_some_iff.1 h
   have hv := count_v n hn _ (hf _ (List.getElem_mem hlt)) k t ht
   rw [w64 (by omega) (by omega)] at h
   obtain ⟨i1, i2⟩ := count_in n hn l hl hf d (i + 1) (by omega) k (acc + t) c (by omega) h hc
   refine ⟨by omega, fun j hj hij => ?_⟩
   rcases Nat.eq_or_lt_of_le hij with rfl | hij
   ·exact ⟨k, t, ht, by omega⟩
   ·exact i2 j hj hij
theorem levels_in (n : Nat) (hn : n ≤ 4194304) (l : List S25) (hl : l.length ≤ 140737488351232) (hf : ∀ x ∈ l, Fits n x) : ∀ (d i : Nat), i + d = l.length → ∀ (k : Nat) (acc r : Int), 0 ≤ acc → acc ≤ 4194304 → conf_levels.l0 k acc l (l.length : Int) (i : Int) = some r → r ≤ 8 → acc + 1 ≤ r ∧ ∀ j (hj : j < l.length), i ≤ j → ∃ k' r', lvF k' l[j] = some r' ∧ r' ≤ 8
 | 0, i, hi, k, acc, r, h0, h1, h, hc => by
  cases k with
  | zero => rw [conf_levels.l0] at h; cases h
  | succ k =>
   rw [conf_levels.l0, if_neg (by omega), w64 (by omega) (by omega)] at h
   injection h with h
   exact ⟨by omega, fun j hj hij => by omega⟩
 | d + 1, i, hi, k, acc, r, h0, h1, h, hc => by
  have hlt : i < l.length := by omega
  cases k with
  | zero => rw [conf_levels.l0] at h; cases h
  | succ k =>
   rw [conf_levels.l0, if_pos (by omega), if_pos (by omega), if_pos (by omega), rd25_at hlt, w1 hlt (by omega)] at h
   obtain ⟨t, ht, h⟩ := Option.bind_eq_some_iff.1 h
   have hv := levels_v n hn _ (hf _ (List.getElem_mem hlt)) k t ht
   have hm : acc ≤ mx acc t ∧ t ≤ mx acc t ∧ (mx acc t = acc ∨ mx acc t = t) := by unfold mx; split <;> omega
   obtain ⟨i1, i2⟩ := levels_in n hn l hl hf d (i + 1) (by omega) k (mx acc t) r (by omega) (by omega) h hc
   refine ⟨by omega, fun j hj hij => ?_⟩
   rcases Nat.eq_or_lt_of_le hij with rfl | hij
   ·exact ⟨k, t, ht, by omega⟩
   ·exact i2 j hj hij
theorem check_sub {n : Nat} (hn : n ≤ 4194304) {x : S25} (hx : Fits n x) (h : CK x) {y : S25} (hy : y ∈ x.f4) : CK y := by
 obtain ⟨K, hK⟩ := h
 have h := hK K (Nat.le_refl _)
 obtain ⟨m, rfl⟩ : ∃ m, n = m + 1 := ⟨n - 1, by have := fits_pos hx; omega⟩
 have hf := hx.2.2.2.2
 obtain ⟨j, hj, rfl⟩ := List.getElem_of_mem hy
 dsimp only at h
 unfold Fck conf_Check.f at h
 obtain ⟨c, hc, h⟩ := Option.bind_eq_some_iff.1 h
 split at h
 ·cases h
 rename_i c1
 obtain ⟨r, hr, h⟩ := Option.bind_eq_some_iff.1 h
 split at h
 ·cases h
 rename_i r1
 obtain ⟨e, he, h⟩ := Option.bind_eq_some_iff.1 h
 injection h with h
 subst h
 cases K with
 | zero => rw [conf_count.f] at hc; cases hc
 | succ k =>
  rw [conf_count.f] at hc
  rw [conf_levels.f] at hr
  rw [conf_valuesFault.f] at he
  obtain ⟨t, ht, he⟩ := Option.bind_eq_some_iff.1 he
  split at he
  case isFalse hne => injection he with he; exact absurd he hne
  obtain ⟨k1, c', hc', hc1⟩ := (count_in m (by omega) x.f4 hx.2.1 hf x.f4.length 0 (by omega) k 1 c (by omega) hc (by omega)).2 j hj (by omega)
  obtain ⟨k2, r', hr', hr1⟩ := (levels_in m (by omega) x.f4 hx.2.1 hf x.f4.length 0 (by omega) k 0 r (by omega) (by omega) hr (by omega)).2 j hj (by omega)
  obtain ⟨k3, hv'⟩ := values_lv x.f4 hx.2.1 x.f4.length 0 (by omega) k he j hj (by omega)
  have e1 : Ev (fun k => cntF k x.f4[j]) c' := ev_mono (fun k => (conf_count.mono_l k).1 _ _ _ _ _ _) hc'
  have e2 : Ev (fun k => lvF k x.f4[j]) r' := ev_mono (fun k => (conf_levels.mono_l k).1 _ _ _ _ _ _) hr'
  have e3 : Ev (fun k => vsF k x.f4[j]) 0 := ev_mono (fun k => (conf_valuesFault.mono_l k).1 _ _ _ _ _ _) hv'
  unfold CK Fck conf_Check.f
  exact Ev.bind e1 (Ev.congr (fun k => if_neg (by omega)) (Ev.bind e2 (Ev.congr (fun k => if_neg (by omega)) (Ev.bind e3 (Ev.now 0)))))
end Go.Proofs.YtlofkjdcapbohaaGreatDoor.Pure
namespace Go.Proofs.YtlofkjdcapbohaaGreatDoor.Pure
open Go.RowKit Go.Proofs.YtlofkjdcapbohaaGreatDoor.PConfKeeps Go.Proofs.YtlofkjdcapbohaaGreatDoorW.PrintWords Go.Proofs.YtlofkjdcapbohaaGreatDoorW.PrintLast Go.Proofs.YtlofkjdcapbohaaGreatDoorW.PrintMore
set_option linter.unusedVariables false
set_option linter.unusedSimpArgs false
/-! ### Sorted lists of keys and items -/
theorem bl_eq : ∀ x y : List UInt8, Op.bytesLess x y = false → Op.bytesLess y x = false → x = y
 | [], [], _, _ => rfl
 | [], b :: y, h, _ => by rw [bless] at h; simp at h
 | a :: x, [], _, h => by rw [bless] at h; simp at h
 | a :: x, b :: y, h, k => by
  rw [bless] at h k
  simp only [decide_eq_false_iff_not, List.cons_lt_cons_iff, not_or, not_and] at h k
  have hab : a = b := by
   have h1 := h.1
   have k1 := k.1
   exact UInt8.toNat_inj.1 (by have h2 : ¬ a.toNat < b.toNat := h1; have k2 : ¬ b.toNat < a.toNat := k1; omega)
  subst hab
  rw [bl_eq x y (by rw [bless]; exact decide_eq_false (h.2 rfl)) (by rw [bless]; exact decide_eq_false (k.2 rfl))]
theorem kl_or (a b : ByteArray) : kl a b ∨ a = b ∨ kl b a := by
 by_cases h : kl a b
 ·exact .inl h
 ·by_cases k : kl b a
  ·exact .inr (.inr k)
  ·exact .inr (.inl (tl_inj (bl_eq _ _ (by simpa using h) (by simpa using k))))
theorem ks_cons {a : ByteArray × S25} {l : AL} (h : ksort (a :: l)) : ksort l ∧ ∀ b ∈ l, kl a.1 b.1 := by
 unfold ksort at h
 rw [List.pairwise_cons] at h
 exact ⟨h.2, h.1⟩
theorem ks_app {l m : AL} (h : ksort l) (k : ksort m) (hk : ∀ a ∈ l, ∀ b ∈ m, kl a.1 b.1) : ksort (l ++ m) := by
 unfold ksort at *
 rw [List.pairwise_append]
 exact ⟨h, k, hk⟩
theorem ks_parts {l m : AL} (h : ksort (l ++ m)) : ksort l ∧ ksort m ∧ ∀ a ∈ l, ∀ b ∈ m, kl a.1 b.1 := by
 unfold ksort at *
 rw [List.pairwise_append] at h
 exact h
theorem ks_ins {pre post : AL} {key : ByteArray} {y : S25} (h : ksort (pre ++ post)) (h0 : ∀ a ∈ pre, kl a.1 key) (h1 : ∀ a ∈ post, kl key a.1) : ksort (pre ++ (key, y) :: post) := by
 obtain ⟨p1, p2, p3⟩ := ks_parts h
 refine ks_app p1 (List.Pairwise.cons (fun b hb => h1 b hb) p2) (fun a ha b hb => ?_)
 rcases List.mem_cons.1 hb with rfl | hb
 ·exact h0 a ha
 ·exact p3 a ha b hb
theorem ks_mid {pre post : AL} {key : ByteArray} {x : S25} (h : ksort (pre ++ (key, x) :: post)) : ksort (pre ++ post) ∧ (∀ a ∈ pre, kl a.1 key) ∧ ∀ a ∈ post, kl key a.1 := by
 obtain ⟨p1, p2, p3⟩ := ks_parts h
 obtain ⟨q1, q2⟩ := ks_cons p2
 exact ⟨ks_app p1 q1 (fun a ha b hb => p3 a ha b (List.mem_cons_of_mem _ hb)), fun a ha => p3 a ha (key, x) (List.mem_cons_self ..), fun a ha => q2 a ha⟩
theorem al_split (key : ByteArray) : ∀ (l : AL), ksort l → (∃ pre x post, l = pre ++ (key, x) :: post) ∨ (∃ pre post, l = pre ++ post ∧ (∀ a ∈ pre, kl a.1 key) ∧ ∀ a ∈ post, kl key a.1)
 | [], _ => .inr ⟨[], [], rfl, fun _ h => (by cases h), fun _ h => (by cases h)⟩
 | (k, x) :: l, h => by
  obtain ⟨h1, h2⟩ := ks_cons h
  rcases kl_or k key with hk | rfl | hk
  ·rcases al_split key l h1 with ⟨pre, y, post, rfl⟩ | ⟨pre, post, rfl, a1, a2⟩
   ·exact .inl ⟨(k, x) :: pre, y, post, rfl⟩
   ·refine .inr ⟨(k, x) :: pre, post, rfl, fun a ha => ?_, a2⟩
    rcases List.mem_cons.1 ha with rfl | ha
    ·exact hk
    ·exact a1 a ha
  ·exact .inl ⟨[], x, l, rfl⟩
  ·refine .inr ⟨[], (k, x) :: l, rfl, fun _ h => (by cases h), fun a ha => ?_⟩
   rcases List.mem_cons.1 ha with rfl | ha
   ·exact hk
   ·exact kl_trans hk (h2 a ha)
/-- what a sorted list has at a key that is at most its keys -/
theorem al_head {key : ByteArray} {l : AL} (hs : ksort l) (hk : ∀ a ∈ l, a.1 = key ∨ kl key a.1) : (∃ x l', l = (key, x) :: l' ∧ ∀ a ∈ l', kl key a.1) ∨ ∀ a ∈ l, kl key a.1 := by
 cases l with
 | nil => exact .inr (fun _ h => by cases h)
 | cons a l =>
  obtain ⟨h1, h2⟩ := ks_cons hs
  rcases hk a (List.mem_cons_self ..) with h | h
  ·obtain ⟨k, x⟩ := a
   dsimp only at h
   subst h
   exact .inl ⟨x, l, rfl, fun b hb => h2 b hb⟩
  ·refine .inr (fun b hb => ?_)
   rcases List.mem_cons.1 hb with rfl | hb
   ·exact h
   ·exact kl_trans h (h2 b hb)
theorem rd_at_al {B : AL} {i : Nat} (h : i < B.length) : rdOf ByteArray.empty (tbl B).f5 (i : Int) = B[i].1 ∧ rd_T25 (tbl B).f4 (i : Int) = B[i].2 := by
 refine ⟨?_, ?_⟩
 ·unfold rdOf tbl
  rw [Int.toNat_natCast, List.getD_eq_getElem?_getD, List.getElem?_map, List.getElem?_eq_getElem h]; rfl
 ·unfold rd_T25 tbl
  rw [Int.toNat_natCast, List.getD_eq_getElem?_getD, List.getElem?_map, List.getElem?_eq_getElem h]; rfl
theorem cputs_v (B : AL) : ∀ (d i : Nat), i + d = B.length → ∀ C : AL, ksort C → C.length + d ≤ 50000 →
  ∃ C', cputs (tbl B) d i (tbl C) = some (tbl C') ∧ ksort C' ∧ C'.length ≤ C.length + d ∧ ∀ key, key ∈ C'.map (·.1) ↔ (key ∈ C.map (·.1) ∨ key ∈ (B.drop i).map (·.1))
 | 0, i, h, C, hs, hl => ⟨C, rfl, hs, by omega, fun key => by rw [List.drop_eq_nil_of_le (by omega)]; simp⟩
 | d + 1, i, h, C, hs, hl => by
  have hlt : i < B.length := by omega
  obtain ⟨e5, e4⟩ := rd_at_al hlt
  have h4 : i < (tbl B).f4.length := by unfold tbl; rw [List.length_map]; exact hlt
  rw [cputs, if_pos h4, e5, e4, List.drop_eq_getElem_cons hlt]
  rcases al_split B[i].1 C hs with ⟨pre, x, post, rfl⟩ | ⟨pre, post, rfl, a1, a2⟩
  ·obtain ⟨m1, m2, m3⟩ := ks_mid hs
   have hlen : (pre ++ (B[i].1, B[i].2) :: post).length = (pre ++ (B[i].1, x) :: post).length := by simp
   obtain ⟨C', hC, s', l', mem⟩ := cputs_v B d (i + 1) (by omega) (pre ++ (B[i].1, B[i].2) :: post) (ks_ins m1 m2 m3) (by rw [hlen]; omega)
   refine ⟨C', by rw [put_mid _ hs (by omega), Option.bind_some]; exact hC, s', by rw [hlen] at l'; omega, fun key => ?_⟩
   rw [mem key]
   simp only [List.map_append, List.map_cons, List.mem_append, List.mem_cons]
   grind
  ·have hlen : (pre ++ (B[i].1, B[i].2) :: post).length = (pre ++ post).length + 1 := by simp; omega
   obtain ⟨C', hC, s', l', mem⟩ := cputs_v B d (i + 1) (by omega) (pre ++ (B[i].1, B[i].2) :: post) (ks_ins hs a1 a2) (by rw [hlen]; omega)
   refine ⟨C', by rw [put_gap _ a1 a2 (by omega), Option.bind_some]; exact hC, s', by rw [hlen] at l'; omega, fun key => ?_⟩
   rw [mem key]
   simp only [List.map_append, List.map_cons, List.mem_append, List.mem_cons]
   grind
/-! ### Routes -/
/-- a right key -/
def KO (key : ByteArray) : Prop := ∃ k, conf_isKey.f k key = some true
theorem ko_sp {key : ByteArray} (h : KO key) : SP key (ks key) := .inl ⟨h, rfl⟩
theorem ko_ne {key : ByteArray} (h : KO key) : key.toList ≠ [] := by rw [tl_eq]; exact (sp_ok (ko_sp h)).1
def rt (P : List ByteArray) : ByteArray := ⟨((P.map (·.data.toList)).foldl jnl []).toArray⟩
theorem rt_data (P : List ByteArray) : (rt P).data.toList = (P.map (·.data.toList)).foldl jnl [] := by unfold rt; simp
theorem rt_size {P : List ByteArray} (h : ∀ key ∈ P, KO key) : (rt P).size ≤ 41 * P.length := by
 have hne : ∀ z ∈ P.map (·.data.toList), z ≠ [] := fun z hz => by
  obtain ⟨a, ha, rfl⟩ := List.mem_map.1 hz
  exact (sp_ok (ko_sp (h a ha))).1
 have hlen := dots_len (P.map (·.data.toList)) (fun z hz => by
  obtain ⟨a, ha, rfl⟩ := List.mem_map.1 hz
  rw [← Lib.size_eq]
  exact (sp_ok (ko_sp (h a ha))).2.2)
 have hsz := Lib.size_eq (rt P)
 rw [rt_data, fold_dots0 _ hne] at hsz
 rw [List.length_map] at hlen
 omega
theorem rt_join {P : List ByteArray} {key : ByteArray} (h : ∀ q ∈ P, KO q) (hk : KO key) (hl : P.length ≤ 1000) : conf_joined.f (rt P) key = some (rt (P ++ [key])) := by
 have h1 := rt_size h
 have h2 := (sp_ok (ko_sp hk)).2.2
 obtain ⟨q, hq, hd⟩ := joined_eq (rt P) key (by omega)
 rw [hq]
 congr 1
 apply bytes_ext
 rw [hd, rt_data, rt_data, List.map_append, List.foldl_append]; rfl
theorem rt_steps {P : List ByteArray} (h : ∀ q ∈ P, KO q) (hl : P.length ≤ 9) : Ev (fun k => conf_steps.f k (rt P) false) (P.map ks, true) := by
 have hsp : ∀ a ∈ P.map (fun q => (q, ks q)), SP a.1 a.2 := fun a ha => by
  obtain ⟨q, hq, rfl⟩ := List.mem_map.1 ha
  exact ko_sp (h q hq)
 obtain ⟨r, hr⟩ : ∃ r, r = P.map (fun q => (q, ks q)) := ⟨_, rfl⟩
 have e1 : r.map (·.1.data.toList) = P.map (·.data.toList) := by rw [hr, List.map_map]; rfl
 have e2 : r.map (·.2) = P.map ks := by rw [hr, List.map_map]; rfl
 have e3 : r.length = P.length := by rw [hr, List.length_map]
 have hq := rt_data P
 rw [← hr] at hsp
 rw [← e1] at hq
 rw [← e2]
 rw [← e3] at hl
 clear e1 e2 e3 hr h
 generalize rt P = q at hq
 have hne : ∀ z ∈ r.map (·.1.data.toList), z ≠ [] := fun z hz => by
  obtain ⟨a, ha, rfl⟩ := List.mem_map.1 hz
  exact (sp_ok (hsp a ha)).1
 rw [fold_dots0 _ hne] at hq
 have hlen := dots_len (r.map (·.1.data.toList)) (fun z hz => by
  obtain ⟨a, ha, rfl⟩ := List.mem_map.1 hz
  rw [← Lib.size_eq]
  exact (sp_ok (hsp a ha)).2.2)
 rw [List.length_map] at hlen
 have hsz := Lib.size_eq q
 rw [hq] at hsz
 unfold conf_steps.f
 cases r with
 | nil =>
  have : q.toList = [] := by rw [tl_eq, hq]; rfl
  exact Ev.congr (f := fun _ => some (([] : List S95), true)) (fun k => by rw [if_neg (by omega), if_pos this]) (Ev.now _)
 | cons a r =>
  have hne2 : ¬ q.toList = [] := by
   rw [tl_eq, hq]
   intro he
   have h1 := hne _ (List.mem_cons_self ..)
   cases r with
   | nil => rw [List.map_cons, List.map_nil, dots] at he; exact h1 he
   | cons b r => rw [List.map_cons, List.map_cons, dots] at he; exact absurd he (by simp)
  have hcut : cutB 46 q = (a :: r).map (·.1) := by
   unfold cutB
   rw [hq, List.map_cons, cut_dots _ _ (fun z hz => by
    rw [← List.map_cons (f := fun (a : ByteArray × S95) => a.1.data.toList)] at hz
    obtain ⟨b, hb, rfl⟩ := List.mem_map.1 hz
    exact (sp_ok (hsp b hb)).2.1), ← List.map_cons (f := fun (a : ByteArray × S95) => a.1.data.toList), List.map_map]
   apply List.map_congr_left
   intro b _
   show (⟨b.1.data.toList.toArray⟩ : ByteArray) = b.1
   apply bytes_ext
   simp
  have hs : strings_Split.f q (⟨#[46]⟩ : ByteArray) = some (cutB 46 q) := by
   unfold strings_Split.f
   rw [if_pos ⟨rfl, by omega⟩]; rfl
  have := steps_of (a :: r) (by omega) hsp (a :: r).length 0 (by omega)
  rw [List.take_zero, List.map_nil] at this
  exact Ev.congr (fun k => by rw [if_neg (by omega), if_neg hne2, hs, hcut, Option.bind_some]; rfl) this
/-- the change that diff writes -/
def mkc (P : List ByteArray) (c : PC) : S69 := match c.2 with
 | none => ⟨rt (P ++ c.1), z25, true⟩
 | some x => ⟨rt (P ++ c.1), x, false⟩
theorem mkc_under (P : List ByteArray) (key : ByteArray) (l : List PC) : (under key l).map (mkc P) = l.map (mkc (P ++ [key])) := by
 unfold under
 rw [List.map_map]
 apply List.map_congr_left
 intro c _
 show mkc P (key :: c.1, c.2) = mkc (P ++ [key]) c
 unfold mkc
 cases c.2 with
 | none => simp
 | some x => simp
/-- what diff finds at a place that m more levels are below -/
def GP (m : Nat) (l : List PC) : Prop := ∀ c ∈ l, c.2 = none ∧ c.1 ≠ [] ∧ (∀ q ∈ c.1, KO q) ∧ c.1.length ≤ m
def OP (n m : Nat) (l : List PC) : Prop := ∀ c ∈ l, (∃ x, c.2 = some x ∧ CK x ∧ Fits n x) ∧ (∀ q ∈ c.1, KO q) ∧ c.1.length ≤ m
theorem GP.app {m : Nat} {l k : List PC} (h : GP m l) (h' : GP m k) : GP m (l ++ k) := fun c hc => (List.mem_append.1 hc).elim (h c) (h' c)
theorem OP.app {n m : Nat} {l k : List PC} (h : OP n m l) (h' : OP n m k) : OP n m (l ++ k) := fun c hc => (List.mem_append.1 hc).elim (h c) (h' c)
theorem GP.under {m : Nat} {l : List PC} {key : ByteArray} (h : GP m l) (hk : KO key) : GP (m + 1) (under key l) := fun c hc => by
 obtain ⟨d, hd, rfl⟩ := List.mem_map.1 hc
 obtain ⟨h1, h2, h3, h4⟩ := h d hd
 refine ⟨h1, by simp, fun q hq => ?_, by simp; omega⟩
 rcases List.mem_cons.1 hq with rfl | hq
 ·exact hk
 ·exact h3 q hq
theorem OP.under {n m : Nat} {l : List PC} {key : ByteArray} (h : OP n m l) (hk : KO key) : OP n (m + 1) (under key l) := fun c hc => by
 obtain ⟨d, hd, rfl⟩ := List.mem_map.1 hc
 obtain ⟨h1, h3, h4⟩ := h d hd
 refine ⟨h1, fun q hq => ?_, by simp; omega⟩
 rcases List.mem_cons.1 hq with rfl | hq
 ·exact hk
 ·exact h3 q hq
/-- what is known of an item -/
def IT (n m : Nat) (p : ByteArray × S25) : Prop := KO p.1 ∧ Fits n p.2 ∧ CK p.2 ∧ Good m p.2
structure DR (n m : Nat) (P : List ByteArray) (f : Nat → Option (List S69 × List S69)) (a b : S25) : Prop where
 ex : ∃ g o a', Ev f (g.map (mkc P), o.map (mkc P)) ∧ GP m g ∧ OP n m o ∧ papp g a = some a' ∧ papp o a' = some b ∧ g.length ≤ nds n a ∧ o.length ≤ nds n b ∧ (a = b → g = [] ∧ o = [])
def Pre (pre : AL) (K : List ByteArray) : Prop := ksort pre ∧ (∀ p ∈ pre, ∀ q ∈ K, kl p.1 q) ∧ pre.length + K.length ≤ 50000
theorem Pre.snoc {pre : AL} {key : ByteArray} {K : List ByteArray} (h : Pre pre (key :: K)) (hk : ∀ q ∈ K, kl key q) (x : S25) : Pre (pre ++ [(key, x)]) K := by
 obtain ⟨h1, h2, h3⟩ := h
 refine ⟨ks_app h1 (List.pairwise_singleton _ _) (fun a ha b hb => ?_), fun p hp q hq => ?_, by simp at h3 ⊢; omega⟩
 ·obtain rfl := List.mem_singleton.1 hb
  exact h2 a ha key (List.mem_cons_self ..)
 ·rcases List.mem_append.1 hp with hp | hp
  ·exact h2 p hp q (List.mem_cons_of_mem _ hq)
  ·obtain rfl := List.mem_singleton.1 hp
   exact hk q hq
theorem Pre.tail {pre : AL} {key : ByteArray} {K : List ByteArray} (h : Pre pre (key :: K)) : Pre pre K := ⟨h.1, fun p hp q hq => h.2.1 p hp q (List.mem_cons_of_mem _ hq), by have := h.2.2; simp at this; omega⟩
theorem snoc_app (pre : AL) (a : ByteArray × S25) (l : AL) : (pre ++ [a]) ++ l = pre ++ a :: l := by simp
end Go.Proofs.YtlofkjdcapbohaaGreatDoor.Pure
namespace Go.Proofs.YtlofkjdcapbohaaGreatDoor.Pure
open Go.RowKit Go.Proofs.YtlofkjdcapbohaaGreatDoor.PConfKeeps Go.Proofs.YtlofkjdcapbohaaGreatDoorW.PrintWords Go.Proofs.YtlofkjdcapbohaaGreatDoorW.PrintLast Go.Proofs.YtlofkjdcapbohaaGreatDoorW.PrintMore
set_option linter.unusedVariables false
set_option linter.unusedSimpArgs false
theorem find_al {A A1 A2 : AL} {key : ByteArray} {K : List ByteArray} (hs : ksort A) (hl : A.length ≤ 1000) (e : A = A1 ++ A2) (h1 : ∀ p ∈ A1, kl p.1 key) (h2 : ∀ p ∈ A2, p.1 ∈ key :: K) (hK : ∀ q ∈ K, kl key q) :
  (∃ x A', A2 = (key, x) :: A' ∧ (∀ p ∈ A', p.1 ∈ K) ∧ conf_find.f (tbl A).f0 (tbl A).f1 (tbl A).f2 (tbl A).f3 (tbl A).f4 (tbl A).f5 key = some ((A1.length : Int), true) ∧ rd_T25 (tbl A).f4 (A1.length : Int) = x ∧ A1.length < (tbl A).f4.length) ∨
  ((∀ p ∈ A2, p.1 ∈ K) ∧ (∀ p ∈ A2, kl key p.1) ∧ ∃ i : Nat, conf_find.f (tbl A).f0 (tbl A).f1 (tbl A).f2 (tbl A).f3 (tbl A).f4 (tbl A).f5 key = some ((i : Int), false)) := by
 subst e
 obtain ⟨s1, s2, s3⟩ := ks_parts hs
 have inK : ∀ p ∈ A2, kl key p.1 → p.1 ∈ K := fun p hp hk => by
  rcases List.mem_cons.1 (h2 p hp) with h | h
  ·rw [h] at hk; exact absurd hk (kl_irr _)
  ·exact h
 rcases al_head s2 (fun p hp => (List.mem_cons.1 (h2 p hp)).imp id (hK p.1)) with ⟨x, A', rfl, h3⟩ | h3
 ·refine .inl ⟨x, A', rfl, fun p hp => inK p (List.mem_cons_of_mem _ hp) (h3 p hp), find_mid hs (by omega) false 0 ⟨#[]⟩, rd_mid A1 A' key x, ?_⟩
  unfold tbl
  rw [List.length_map, List.length_append, List.length_cons]; omega
 ·exact .inr ⟨fun p hp => inK p hp (h3 p hp), h3, A1.length, find_gap h1 h3 (by omega) 6 false 0 ⟨#[]⟩⟩
theorem sum_cons (n : Nat) (p : ByteArray × S25) (l : AL) : ((p :: l).map (fun p => nds n p.2)).sum = nds n p.2 + (l.map (fun p => nds n p.2)).sum := by simp
theorem under_len (key : ByteArray) (l : List PC) : (under key l).length = l.length := by unfold under; rw [List.length_map]
theorem keys_d {n m : Nat} (hn : n ≤ 4194304) (IH : ∀ x y : S25, Fits n x → Fits n y → CK x → CK y → Good m x → ∀ P : List ByteArray, P.length + m ≤ 9 → (∀ q ∈ P, KO q) → DR n m P (fun k => cdiff k m x y (rt P)) x y)
  (P : List ByteArray) (hP : P.length + (m + 1) ≤ 9) (hPK : ∀ q ∈ P, KO q) (A B : AL) (sA : ksort A) (sB : ksort B) (lA : A.length ≤ 1000) (lB : B.length ≤ 1000) (hA : ∀ p ∈ A, IT n m p) (hB : ∀ p ∈ B, KO p.1 ∧ Fits n p.2 ∧ CK p.2) (K : List ByteArray) :
  ∀ (K2 : List ByteArray) (i : Nat), K.drop i = K2 → K2.Pairwise kl → (∀ q ∈ K2, KO q) → ∀ A1 A2 B1 B2 : AL, A = A1 ++ A2 → B = B1 ++ B2 → (∀ p ∈ A1, ∀ q ∈ K2, kl p.1 q) → (∀ p ∈ B1, ∀ q ∈ K2, kl p.1 q) → (∀ p ∈ A2, p.1 ∈ K2) → (∀ p ∈ B2, p.1 ∈ K2) → (∀ q ∈ K2, q ∈ A2.map (·.1) ∨ q ∈ B2.map (·.1)) →
  ∃ g o R, Ev (fun k => ckeys (cdiff k m) k (tbl A) (tbl B) (rt P) K K2.length i) (g.map (mkc P), o.map (mkc P)) ∧ GP (m + 1) g ∧ OP n (m + 1) o ∧ g.length ≤ (A2.map (fun p => nds n p.2)).sum ∧ o.length ≤ (B2.map (fun p => nds n p.2)).sum ∧ ksort R ∧ (∀ p ∈ R, p.1 ∈ K2) ∧ R.length ≤ A2.length ∧
   ∀ pre, Pre pre K2 → papp g (tbl (pre ++ A2)) = some (tbl (pre ++ R)) ∧ papp o (tbl (pre ++ R)) = some (tbl (pre ++ B2)) := by
 intro K2
 induction K2 with
 | nil =>
  intro i hi sK hK A1 A2 B1 B2 eA eB oA oB iA iB un
  have a0 : A2 = [] := List.eq_nil_iff_forall_not_mem.2 (fun p hp => by cases iA p hp)
  have b0 : B2 = [] := List.eq_nil_iff_forall_not_mem.2 (fun p hp => by cases iB p hp)
  subst a0; subst b0
  exact ⟨[], [], [], Ev.now _, fun _ h => (by cases h), fun _ h => (by cases h), Nat.le_refl _, Nat.le_refl _, List.Pairwise.nil, fun _ h => (by cases h), Nat.le_refl _, fun pre _ => ⟨rfl, rfl⟩⟩
 | cons key K' ih =>
  intro i hi sK hK A1 A2 B1 B2 eA eB oA oB iA iB un
  obtain ⟨hil, hi', hget⟩ := at_drop hi
  rw [List.pairwise_cons] at sK
  obtain ⟨sK1, sK2⟩ := sK
  have hkey : KO key := hK key (List.mem_cons_self ..)
  have hne := ko_ne hkey
  have hrd : rdOf ByteArray.empty K (i : Int) = key := by unfold rdOf; rw [Int.toNat_natCast]; exact hget _
  have hj := rt_join hPK hkey (by omega)
  have sA2 : ksort A2 := by rw [eA] at sA; exact (ks_parts sA).2.1
  have sB2 : ksort B2 := by rw [eB] at sB; exact (ks_parts sB).2.1
  have lA2 : A2.length ≤ 1000 := by rw [eA, List.length_append] at lA; omega
  have lB2 : B2.length ≤ 1000 := by rw [eB, List.length_append] at lB; omega
  have oA' : ∀ p ∈ A1, ∀ q ∈ K', kl p.1 q := fun p hp q hq => oA p hp q (List.mem_cons_of_mem _ hq)
  have oB' : ∀ p ∈ B1, ∀ q ∈ K', kl p.1 q := fun p hp q hq => oB p hp q (List.mem_cons_of_mem _ hq)
  have hK' : ∀ q ∈ K', KO q := fun q hq => hK q (List.mem_cons_of_mem _ hq)
  have step : ∀ {pg po : List S69} {rg ro : List S69}, Ev (fun k => cone (cdiff k m) k (tbl A) (tbl B) key (rt (P ++ [key]))) (pg, po) → Ev (fun k => ckeys (cdiff k m) k (tbl A) (tbl B) (rt P) K K'.length (i + 1)) (rg, ro) → Ev (fun k => ckeys (cdiff k m) k (tbl A) (tbl B) (rt P) K (key :: K').length i) (pg ++ rg, po ++ ro) := fun {pg po rg ro} h1 h2 => by
   refine Ev.congr (fun k => by rw [List.length_cons, ckeys, hrd, hj, Option.bind_some]) ?_
   exact Ev.bind h1 (Ev.bind h2 (Ev.now _))
  have srt2 : ∀ {pre l : AL}, Pre pre (key :: K') → ksort l → (∀ p ∈ l, p.1 ∈ key :: K') → ksort (pre ++ l) := fun {pre l} hp hs hl => ks_app hp.1 hs (fun a ha b hb => hp.2.1 a ha b.1 (hl b hb))
  have snoc : ∀ {X : AL} {x : S25}, (∀ p ∈ X, ∀ q ∈ key :: K', kl p.1 q) → ∀ p ∈ X ++ [(key, x)], ∀ q ∈ K', kl p.1 q := fun {X x} h p hp q hq => by
   rcases List.mem_append.1 hp with hp | hp
   ·exact h p hp q (List.mem_cons_of_mem _ hq)
   ·obtain rfl := List.mem_singleton.1 hp
    exact sK1 q hq
  rcases find_al sA lA eA (fun p hp => oA p hp key (List.mem_cons_self ..)) iA sK1 with ⟨x, A', rfl, iA', fa, ra, ba⟩ | ⟨iA', gA, ia, fa⟩
  ·have hx := hA (key, x) (by rw [eA]; simp)
   rcases find_al sB lB eB (fun p hp => oB p hp key (List.mem_cons_self ..)) iB sK1 with ⟨y, B', rfl, iB', fb, rb, bb⟩ | ⟨iB', gB, ib, fb⟩
   ·-- both
    have hy := hB (key, y) (by rw [eB]; simp)
    obtain ⟨g1, o1, x', e1, G1, O1, p1, q1, lg1, lo1, _⟩ := (IH x y hx.2.1 hy.2.1 hx.2.2.1 hy.2.2 hx.2.2.2 (P ++ [key]) (by rw [List.length_append, List.length_singleton]; omega) (fun q hq => by
     rcases List.mem_append.1 hq with hq | hq
     ·exact hPK q hq
     ·obtain rfl := List.mem_singleton.1 hq; exact hkey)).ex
    obtain ⟨g2, o2, R, e2, G2, O2, lg2, lo2, sR, iR, lR, pp⟩ := ih (i + 1) hi' sK2 hK' (A1 ++ [(key, x)]) A' (B1 ++ [(key, y)]) B' (by rw [eA]; simp) (by rw [eB]; simp) (snoc oA) (snoc oB) iA' iB' (fun q hq => by
     have hqk : q ≠ key := fun h_ => kl_irr key (by have := sK1 q hq; rw [h_] at this; exact this)
     rcases un q (List.mem_cons_of_mem _ hq) with h | h
     ·rw [List.map_cons, List.mem_cons] at h; exact .inl (h.resolve_left hqk)
     ·rw [List.map_cons, List.mem_cons] at h; exact .inr (h.resolve_left hqk))
    have sR2 : ksort ((key, x') :: R) := List.Pairwise.cons (fun b hb => sK1 _ (iR b hb)) sR
    have iR2 : ∀ p ∈ (key, x') :: R, p.1 ∈ key :: K' := fun p hp => by
     rcases List.mem_cons.1 hp with rfl | hp
     ·exact List.mem_cons_self ..
     ·exact List.mem_cons_of_mem _ (iR p hp)
    refine ⟨under key g1 ++ g2, under key o1 ++ o2, (key, x') :: R, ?_, (G1.under hkey).app G2, (O1.under hkey).app O2, ?_, ?_, sR2, iR2, by simp at lR ⊢; omega, fun pre hpre => ?_⟩
    ·rw [List.map_append, List.map_append, mkc_under, mkc_under]
     refine step ?_ e2
     refine Ev.congr (fun k => by rw [cone, fa, Option.bind_some, fb, Option.bind_some]; dsimp only; rw [if_neg (by decide), if_pos ⟨by omega, by omega⟩, if_neg (by decide), if_pos ⟨by omega, by omega⟩, ra, rb]) e1
    ·rw [List.length_append, under_len, sum_cons]; dsimp only; omega
    ·rw [List.length_append, under_len, sum_cons]; dsimp only; omega
    ·have l1 : (pre ++ (key, x) :: A').length ≤ 100000 := by have := hpre.2.2; rw [List.length_append]; omega
     have l2 : (pre ++ (key, x') :: R).length ≤ 100000 := by have := hpre.2.2; rw [List.length_append, List.length_cons]; simp at lA2; omega
     obtain ⟨r1, _⟩ := pp (pre ++ [(key, x')]) (hpre.snoc sK1 x')
     obtain ⟨_, r2⟩ := pp (pre ++ [(key, y)]) (hpre.snoc sK1 y)
     rw [snoc_app, snoc_app] at r1
     rw [snoc_app, snoc_app] at r2
     constructor
     ·rw [papp_append, papp_under hne g1 x (fun c hc _ => (G1 c hc).2.1) (srt2 hpre sA2 iA) l1, p1]
      exact r1
     ·rw [papp_append, papp_under hne o1 x' (fun c hc h_ => by obtain ⟨z, hz, _⟩ := (O1 c hc).1; rw [h_] at hz; cases hz) (srt2 hpre sR2 iR2) l2, q1]
      exact r2
   ·-- in a alone
    obtain ⟨g2, o2, R, e2, G2, O2, lg2, lo2, sR, iR, lR, pp⟩ := ih (i + 1) hi' sK2 hK' (A1 ++ [(key, x)]) A' B1 B2 (by rw [eA]; simp) eB (snoc oA) oB' iA' iB' (fun q hq => by
     have hqk : q ≠ key := fun h_ => kl_irr key (by have := sK1 q hq; rw [h_] at this; exact this)
     rcases un q (List.mem_cons_of_mem _ hq) with h | h
     ·rw [List.map_cons, List.mem_cons] at h; exact .inl (h.resolve_left hqk)
     ·exact .inr h)
    have hpos := nds_pos n x hx.2.1
    refine ⟨([key], none) :: g2, o2, R, ?_, ?_, O2, ?_, lo2, sR, fun p hp => List.mem_cons_of_mem _ (iR p hp), by simp at lR ⊢; omega, fun pre hpre => ?_⟩
    ·exact step (pg := [⟨rt (P ++ [key]), z25, true⟩]) (po := []) (Ev.congr (f := fun _ => some ([⟨rt (P ++ [key]), z25, true⟩], [])) (fun k => by rw [cone, fa, Option.bind_some, fb, Option.bind_some]; dsimp only; rw [if_pos rfl]) (Ev.now _)) e2
    ·intro c hc
     rcases List.mem_cons.1 hc with rfl | hc
     ·exact ⟨rfl, by simp, fun q hq => by obtain rfl := List.mem_singleton.1 hq; exact hkey, by simp⟩
     ·exact G2 c hc
    ·rw [List.length_cons, sum_cons]; dsimp only; omega
    ·have l1 : (pre ++ (key, x) :: A').length ≤ 100000 := by have := hpre.2.2; rw [List.length_append]; omega
     obtain ⟨r1, r2⟩ := pp pre hpre.tail
     refine ⟨?_, r2⟩
     rw [papp]
     show (prem [key] _).bind _ = _
     rw [rem_mid hne (srt2 hpre sA2 iA) l1, if_pos rfl, Option.bind_some]
     exact r1
  ·rcases find_al sB lB eB (fun p hp => oB p hp key (List.mem_cons_self ..)) iB sK1 with ⟨y, B', rfl, iB', fb, rb, bb⟩ | ⟨iB', gB, ib, fb⟩
   ·-- in b alone
    have hy := hB (key, y) (by rw [eB]; simp)
    have hgy : Gd y := chk_gd hn hy.2.1 hy.2.2
    obtain ⟨g2, o2, R, e2, G2, O2, lg2, lo2, sR, iR, lR, pp⟩ := ih (i + 1) hi' sK2 hK' A1 A2 (B1 ++ [(key, y)]) B' eA (by rw [eB]; simp) oA' (snoc oB) iA' iB' (fun q hq => by
     have hqk : q ≠ key := fun h_ => kl_irr key (by have := sK1 q hq; rw [h_] at this; exact this)
     rcases un q (List.mem_cons_of_mem _ hq) with h | h
     ·exact .inl h
     ·rw [List.map_cons, List.mem_cons] at h; exact .inr (h.resolve_left hqk))
    have hpos := nds_pos n y hy.2.1
    refine ⟨g2, ([key], some y) :: o2, R, ?_, G2, ?_, lg2, ?_, sR, fun p hp => List.mem_cons_of_mem _ (iR p hp), lR, fun pre hpre => ?_⟩
    ·refine step (pg := []) (po := [⟨rt (P ++ [key]), y, false⟩]) ?_ e2
     refine Ev.congr (fun k => by rw [cone, fa, Option.bind_some, fb, Option.bind_some]; dsimp only; rw [if_neg (by decide), if_pos ⟨by omega, by omega⟩, if_pos rfl, rb]) (Ev.bind (fcl_ev hgy) (Ev.now _))
    ·intro c hc
     rcases List.mem_cons.1 hc with rfl | hc
     ·exact ⟨⟨y, rfl, hy.2.2, hy.2.1⟩, fun q hq => by obtain rfl := List.mem_singleton.1 hq; exact hkey, by simp⟩
     ·exact O2 c hc
    ·rw [List.length_cons, sum_cons]; dsimp only; omega
    ·obtain ⟨r1, _⟩ := pp pre hpre.tail
     obtain ⟨_, r2⟩ := pp (pre ++ [(key, y)]) (hpre.snoc sK1 y)
     rw [snoc_app, snoc_app] at r2
     refine ⟨r1, ?_⟩
     rw [papp]
     show (pset [key] _ y).bind _ = _
     rw [set_gap hne (fun a ha => hpre.2.1 a ha key (List.mem_cons_self ..)) (fun a ha => sK1 _ (iR a ha)) (by have := hpre.2.2; rw [List.length_append]; omega) y, Option.bind_some]
     exact r2
   ·-- in none: it is no key then
    exfalso
    rcases un key (List.mem_cons_self ..) with h | h
    ·obtain ⟨p, hp, he⟩ := List.mem_map.1 h
     have := gA p hp
     rw [he] at this
     exact kl_irr key this
    ·obtain ⟨p, hp, he⟩ := List.mem_map.1 h
     have := gB p hp
     rw [he] at this
     exact kl_irr key this
end Go.Proofs.YtlofkjdcapbohaaGreatDoor.Pure
namespace Go.Proofs.YtlofkjdcapbohaaGreatDoor.Pure
open Go.RowKit Go.Proofs.YtlofkjdcapbohaaGreatDoor.PConfKeeps Go.Proofs.YtlofkjdcapbohaaGreatDoorW.PrintWords Go.Proofs.YtlofkjdcapbohaaGreatDoorW.PrintLast Go.Proofs.YtlofkjdcapbohaaGreatDoorW.PrintMore
set_option linter.unusedVariables false
set_option linter.unusedSimpArgs false
theorem ck_value {x : S25} (h : CK x) : ∃ k, conf_valueFault.f k x.f0 x.f1 x.f2 x.f3 x.f4 x.f5 = some 0 := by
 obtain ⟨K, hK⟩ := h
 have h := hK K (Nat.le_refl _)
 dsimp only at h
 unfold Fck conf_Check.f at h
 obtain ⟨c, hc, h⟩ := Option.bind_eq_some_iff.1 h
 split at h
 ·cases h
 obtain ⟨r, hr, h⟩ := Option.bind_eq_some_iff.1 h
 split at h
 ·cases h
 obtain ⟨e, he, h⟩ := Option.bind_eq_some_iff.1 h
 injection h with h
 subst h
 cases K with
 | zero => rw [conf_valuesFault.f] at he; cases he
 | succ k =>
  rw [conf_valuesFault.f] at he
  obtain ⟨t, ht, he⟩ := Option.bind_eq_some_iff.1 he
  split at he
  case isFalse hne => injection he with he; exact absurd he hne
  rename_i h0
  subst h0
  exact ⟨k, ht⟩
theorem table_of {n : Nat} (hn : n ≤ 4194304) {x : S25} (hx : Fits n x) (h : CK x) (h6 : x.f0 = 6) : x = tbl (x.f5.zip x.f4) ∧ ksort (x.f5.zip x.f4) ∧ (x.f5.zip x.f4).length ≤ 1000 ∧ x.f5.length = (x.f5.zip x.f4).length ∧ (x.f5.zip x.f4).map (·.2) = x.f4 ∧ ∀ p ∈ x.f5.zip x.f4, KO p.1 ∧ p.2 ∈ x.f4 := by
 obtain ⟨k, hk⟩ := ck_value h
 obtain ⟨z1, z2, z3⟩ := value6 h6 hk
 have hg := (chk_gd hn hx h).node
 have hl := hg.1.ln h6
 have m1 : (x.f5.zip x.f4).map (·.1) = x.f5 := List.map_fst_zip (by omega)
 have m2 : (x.f5.zip x.f4).map (·.2) = x.f4 := List.map_snd_zip (by omega)
 have hlen : (x.f5.zip x.f4).length = x.f5.length := by rw [List.length_zip]; omega
 refine ⟨?_, ?_, by have := hg.2; omega, hlen.symm, m2, fun p hp => ?_⟩
 ·unfold tbl
  rw [m1, m2]
  cases x
  dsimp only at h6 z1 z2 z3
  rw [h6, z1, z2, z3]
 ·have := hg.1.so
  unfold Srt at this
  rw [← m1, List.pairwise_map] at this
  exact this
 ·obtain ⟨p1, p2⟩ := p
  have := List.of_mem_zip hp
  exact ⟨hg.1.ky _ this.1, this.2⟩
theorem OP.mono {n n' m : Nat} {l : List PC} (h : OP n m l) (hn : n ≤ n') : OP n' m l := fun c hc => by
 obtain ⟨⟨x, h1, h2, h3⟩, h4⟩ := h c hc
 exact ⟨⟨x, h1, h2, fits_mono _ _ _ hn h3⟩, h4⟩
theorem diff_v : ∀ (m n : Nat), n ≤ 4194304 → ∀ a b : S25, Fits n a → Fits n b → CK a → CK b → Good m a → ∀ P : List ByteArray, P.length + m ≤ 9 → (∀ q ∈ P, KO q) → DR n m P (fun k => cdiff k m a b (rt P)) a b
 | 0, _, _, _, _, _, _, _, _, h, _, _, _ => h.elim
 | _ + 1, 0, _, _, _, h, _, _, _, _, _, _, _ => h.elim
 | m + 1, n + 1, hn, a, b, ha, hb, ka, kb, ga, P, hP, hPK => by
  have hcmp := cmp_ev (ord_fits (n + 1) a ha) b
  have hgb : Gd b := chk_gd hn hb kb
  by_cases c0 : Ord.cv (n + 1) a b = 0
  ·have hab := cv_zero (n + 1) a b (ord_fits (n + 1) a ha) c0
   refine ⟨[], [], a, ?_, fun _ h => (by cases h), fun _ h => (by cases h), rfl, by rw [hab]; rfl, Nat.zero_le _, Nat.zero_le _, fun _ => ⟨rfl, rfl⟩⟩
   refine Ev.congr (fun k => by rw [cdiff]) ?_
   exact Ev.bind hcmp (Ev.congr (f := fun _ => some ([], [])) (fun k => by rw [if_pos c0]) (Ev.now _))
  ·have hab : a ≠ b := fun h => c0 (by rw [h]; exact Ord.cv_self _ _)
   by_cases ck : a.f0 ≠ 6 ∨ b.f0 ≠ 6
   ·refine ⟨[], [([], some b)], a, ?_, fun _ h => (by cases h), fun c hc => ?_, rfl, ?_, Nat.zero_le _, ?_, fun h => absurd h hab⟩
    ·refine Ev.congr (fun k => by rw [cdiff]) ?_
     refine Ev.bind hcmp (Ev.congr (fun k => by rw [if_neg c0, if_pos ck]) (Ev.bind (fcl_ev hgb) ?_))
     refine Ev.congr (f := fun _ => some ([], [⟨rt P, b, false⟩])) (fun k => rfl) ?_
     have e1 : ([([], some b)] : List PC).map (mkc P) = [⟨rt P, b, false⟩] := by
      rw [List.map_cons, List.map_nil]; unfold mkc; dsimp only; rw [List.append_nil]
     rw [e1]
     exact Ev.now _
    ·obtain rfl := List.mem_singleton.1 hc
     exact ⟨⟨b, rfl, kb, hb⟩, fun _ h => (by cases h), Nat.zero_le _⟩
    ·rw [papp]
     show (pset [] a b).bind _ = _
     unfold pset
     rw [List.map_nil, cset, Option.bind_some]
     rfl
    ·exact nds_pos _ _ hb
   ·have ca6 : a.f0 = 6 := Classical.byContradiction fun h => ck (.inl h)
    have cb6 : b.f0 = 6 := Classical.byContradiction fun h => ck (.inr h)
    obtain ⟨ea, sa, la, la5, ma, ia⟩ := table_of hn ha ka ca6
    obtain ⟨eb, sb, lb, lb5, mb, ib⟩ := table_of hn hb kb cb6
    obtain ⟨A, hA⟩ : ∃ A, A = a.f5.zip a.f4 := ⟨_, rfl⟩
    obtain ⟨B, hB⟩ : ∃ B, B = b.f5.zip b.f4 := ⟨_, rfl⟩
    rw [← hA] at ea sa la la5 ma ia
    rw [← hB] at eb sb lb lb5 mb ib
    obtain ⟨C, hC, sC, lC, mC⟩ := cputs_v B B.length 0 (by omega) A sa (by omega)
    rw [List.drop_zero] at mC
    have hK : (tbl C).f5 = C.map (·.1) := rfl
    have sumA : (A.map (fun p => nds n p.2)).sum = (a.f4.map (nds n)).sum := by rw [← ma, List.map_map]; rfl
    have sumB : (B.map (fun p => nds n p.2)).sum = (b.f4.map (nds n)).sum := by rw [← mb, List.map_map]; rfl
    obtain ⟨g, o, R, ev, G, O, lg, lo, sR, iR, lR, pp⟩ := keys_d (n := n) (m := m) (by omega) (fun x y hx hy kx ky gx P hP hPK => diff_v m n (by omega) x y hx hy kx ky gx P hP hPK) P hP hPK A B sa sb la lb
     (fun p hp => ⟨(ia p hp).1, ha.2.2.2.2 _ (ia p hp).2, check_sub hn ha ka (ia p hp).2, ga.2.2 _ (ia p hp).2⟩) (fun p hp => ⟨(ib p hp).1, hb.2.2.2.2 _ (ib p hp).2, check_sub hn hb kb (ib p hp).2⟩) (C.map (·.1)) (C.map (·.1)) 0 List.drop_zero (by unfold ksort at sC; exact List.pairwise_map.2 sC)
     (fun q hq => by
      rcases (mC q).1 hq with h | h
      ·obtain ⟨p, hp, rfl⟩ := List.mem_map.1 h; exact (ia p hp).1
      ·obtain ⟨p, hp, rfl⟩ := List.mem_map.1 h; exact (ib p hp).1)
     [] A [] B rfl rfl (fun _ h => (by cases h)) (fun _ h => (by cases h)) (fun p hp => (mC _).2 (.inl (List.mem_map_of_mem hp))) (fun p hp => (mC _).2 (.inr (List.mem_map_of_mem hp))) (fun q hq => (mC q).1 hq)
    obtain ⟨r1, r2⟩ := pp [] ⟨List.Pairwise.nil, fun _ h => (by cases h), by rw [List.length_map, List.length_nil]; omega⟩
    rw [List.nil_append, List.nil_append, ← ea] at r1
    rw [List.nil_append, List.nil_append, ← eb] at r2
    refine ⟨g, o, tbl R, ?_, G, O.mono (Nat.le_succ _), r1, r2, ?_, ?_, fun h => absurd h hab⟩
    ·refine Ev.congr (fun k => by rw [cdiff]) ?_
     refine Ev.bind hcmp (Ev.congr (fun k => by rw [if_neg c0, if_neg ck]) ?_)
     have hC' : cputs b b.f5.length 0 a = some (tbl C) := by
      rw [lb5]
      have : cputs (tbl B) B.length 0 (tbl A) = some (tbl C) := hC
      rwa [← ea, ← eb] at this
     refine Ev.congr (fun k => by rw [hC', Option.bind_some, if_pos ⟨by omega, by rw [hK, List.length_map]; omega⟩, hK]) ?_
     have ev' := ev
     rw [← ea, ← eb] at ev'
     exact ev'
    ·rw [nds, ← sumA]; omega
    ·rw [nds, ← sumB]; omega
end Go.Proofs.YtlofkjdcapbohaaGreatDoor.Pure
namespace Go.Proofs.YtlofkjdcapbohaaGreatDoor.Pure
open Go.RowKit Go.Proofs.YtlofkjdcapbohaaGreatDoor.PConfKeeps Go.Proofs.YtlofkjdcapbohaaGreatDoorW.PrintWords Go.Proofs.YtlofkjdcapbohaaGreatDoorW.PrintLast Go.Proofs.YtlofkjdcapbohaaGreatDoorW.PrintMore
set_option linter.unusedVariables false
set_option linter.unusedSimpArgs false
/-- a change's path is of right keys and not long -/
def PO (c : PC) : Prop := (∀ q ∈ c.1, KO q) ∧ c.1.length ≤ 9
theorem mkc_none {c : PC} (h : c.2 = none) : mkc [] c = ⟨rt c.1, z25, true⟩ := by unfold mkc; rw [h]; rfl
theorem mkc_some {c : PC} {x : S25} (h : c.2 = some x) : mkc [] c = ⟨rt c.1, x, false⟩ := by unfold mkc; rw [h]; rfl
theorem capp_ev : ∀ (l : List PC) (v y : S25), (∀ c ∈ l, PO c) → papp l v = some y → Ev (fun k => capp k (l.map (mkc [])) v) y
 | [], v, y, _, h => by
  rw [papp] at h
  injection h with h
  subst h
  exact Ev.congr (f := fun _ => some v) (fun k => rfl) (Ev.now _)
 | c :: l, v, y, hp, h => by
  rw [papp] at h
  obtain ⟨v1, h1, h2⟩ := Option.bind_eq_some_iff.1 h
  have ih := capp_ev l v1 y (fun d hd => hp d (List.mem_cons_of_mem _ hd)) h2
  obtain ⟨p1, p2⟩ := hp c (List.mem_cons_self ..)
  have hst := rt_steps p1 p2
  refine Ev.congr (fun k => by rw [List.map_cons, capp]) ?_
  unfold pap1 at h1
  cases hc : c.2 with
  | none =>
   rw [hc] at h1
   dsimp only at h1
   rw [mkc_none hc]
   refine Ev.bind hst (Ev.congr (fun k => by rw [if_pos rfl]) ?_)
   dsimp only
   unfold prem at h1
   rw [h1]
   exact ih
  | some x =>
   rw [hc] at h1
   dsimp only at h1
   rw [mkc_some hc]
   refine Ev.bind hst (Ev.congr (fun k => by rw [if_neg (fun h_ => by cases h_)]) ?_)
   dsimp only
   unfold pset at h1
   rw [h1]
   exact ih
theorem all_ev3 {α : Type} {g : Nat → α → Prop} : ∀ (l : List α), (∀ a ∈ l, ∃ K, ∀ k, K ≤ k → g k a) → ∃ K, ∀ k, K ≤ k → ∀ a ∈ l, g k a
 | [], _ => ⟨0, fun _ _ a ha => by cases ha⟩
 | a :: l, h => by
  obtain ⟨K1, h1⟩ := h a (List.mem_cons_self ..)
  obtain ⟨K2, h2⟩ := all_ev3 l (fun b hb => h b (List.mem_cons_of_mem _ hb))
  refine ⟨K1 + K2, fun k hk b hb => ?_⟩
  rcases List.mem_cons.1 hb with rfl | hb
  ·exact h1 k (by omega)
  ·exact h2 k (by omega) b hb
theorem check_z : CK z25 := by
 have h0 : Fck 20 z25 = some 0 := by kernel_rfl
 exact Ev.of (g := fun k => Fck k z25) (conf_Check.mono _ _ _ _ _ _) h0
theorem unused_z : Ev (fun k => conf_unused.f k 0 false 0 ⟨#[]⟩ [] []) false := by
 have h0 : conf_unused.f 20 0 false 0 ⟨#[]⟩ [] [] = some false := by kernel_rfl
 exact Ev.of (g := fun k => conf_unused.f k 0 false 0 ⟨#[]⟩ [] []) (conf_unused.mono _ _ _ _ _ _) h0
theorem cf_ev {c : PC} (hp : PO c) (h : (c.2 = none ∧ c.1 ≠ []) ∨ ∃ x, c.2 = some x ∧ CK x) : ∃ K, ∀ k, K ≤ k → CfOk k (mkc [] c) := by
 obtain ⟨K1, h1⟩ := rt_steps hp.1 hp.2
 obtain ⟨K2, h2⟩ := unused_z
 rcases h with ⟨hc, hne⟩ | ⟨x, hc, hx⟩
 ·obtain ⟨K3, h3⟩ := check_z
  refine ⟨K1 + K2 + K3, fun k hk => ?_⟩
  rw [mkc_none hc]
  exact ⟨h3 k (by omega), ⟨_, h1 k (by omega), fun _ he => hne (List.map_eq_nil_iff.1 he)⟩, fun _ => rfl, h2 k (by omega)⟩
 ·obtain ⟨K3, h3⟩ := hx
  refine ⟨K1 + K2 + K3, fun k hk => ?_⟩
  rw [mkc_some hc]
  exact ⟨h3 k (by omega), ⟨_, h1 k (by omega), fun h_ => (by cases h_)⟩, fun h_ => (by cases h_), h2 k (by omega)⟩
theorem sm_ev {n : Nat} {a : S25} (ha : Fits n a) (b : S25) : Ev (fun k => Fsm k a b) (Ord.cv n a b == 0) := by
 have h := cmp_ev (ord_fits n a ha) b
 unfold Fcm at h
 unfold Fsm mastkeep2_same.f
 exact Ev.bind h (Ev.now _)
theorem ConfMends {n : Nat} (hn : n ≤ 4194304) (a b : S25) (ha : Fits n a) (hb : Fits n b) :
  (∃ k l er, cDiff k 8 a b = some (l, er) ∧ er ≠ 0 ∧ l.length = 0) ∨
  (∃ k l x r bs, cDiff k 8 a b = some (l, 0) ∧ ApOk k a l x r ∧ Fsm k r b = some true ∧ Fsm k a b = some bs ∧ (l.length == 0) = bs) := by
 have bad : ∀ e : Int, e ≠ 0 → Ev (fun k => cDiff k 8 a b) ([], e) → (∃ k l er, cDiff k 8 a b = some (l, er) ∧ er ≠ 0 ∧ l.length = 0) := fun e he ⟨K, h⟩ => ⟨K, [], e, h _ (Nat.le_refl _), he, rfl⟩
 obtain ⟨e1, h1, _⟩ := check_tot ha
 by_cases c1 : e1 = 0
 case neg => exact .inl (bad e1 c1 (by unfold cDiff; exact Ev.bind h1 (Ev.congr (fun k => if_neg c1) (Ev.now _))))
 subst c1
 obtain ⟨e2, h2, _⟩ := check_tot hb
 by_cases c2 : e2 = 0
 case neg => exact .inl (bad e2 c2 (by unfold cDiff; exact Ev.bind h1 (Ev.congr (fun k => if_pos rfl) (Ev.bind h2 (Ev.congr (fun k => if_neg c2) (Ev.now _))))))
 subst c2
 obtain ⟨k1, hk1⟩ := h1.rounds
 obtain ⟨ga, na⟩ := check_v hn ha hk1
 obtain ⟨k2, hk2⟩ := h2.rounds
 obtain ⟨gb, nb⟩ := check_v hn hb hk2
 obtain ⟨g, o, a', ev, G, O, r1, r2, lg, lo, he⟩ := (diff_v 8 n hn a b ha hb h1 h2 ga [] (by decide) (fun _ h => by cases h)).ex
 have hD : Ev (fun k => cDiff k 8 a b) (g.map (mkc []) ++ o.map (mkc []), 0) := by
  unfold cDiff
  refine Ev.bind h1 (Ev.congr (fun k => if_pos rfl) (Ev.bind h2 (Ev.congr (fun k => if_pos rfl) ?_)))
  have : Ev (fun k => cdiff k 8 a b ⟨#[]⟩) (g.map (mkc []), o.map (mkc [])) := ev
  exact Ev.bind this (Ev.congr (f := fun _ => some (g.map (mkc []) ++ o.map (mkc []), 0)) (fun k => if_pos ⟨by rw [List.length_map]; omega, by rw [List.length_map]; omega⟩) (Ev.now _))
 rw [← List.map_append] at hD
 have hpo : ∀ c ∈ g ++ o, PO c := fun c hc => by
  rcases List.mem_append.1 hc with h | h
  ·exact ⟨(G c h).2.2.1, by have := (G c h).2.2.2; omega⟩
  ·exact ⟨(O c h).2.1, by have := (O c h).2.2; omega⟩
 have hap : papp (g ++ o) a = some b := by rw [papp_append, r1]; exact r2
 obtain ⟨K1, e1⟩ := hD
 obtain ⟨K2, e2⟩ := capp_ev (g ++ o) a b hpo hap
 obtain ⟨K3, e3⟩ := all_ev3 (g := fun k c => CfOk k (mkc [] c)) (g ++ o) (fun c hc => cf_ev (hpo c hc) (by
  rcases List.mem_append.1 hc with h | h
  ·exact .inl ⟨(G c h).1, (G c h).2.1⟩
  ·obtain ⟨x, hx, ck, _⟩ := (O c h).1
   exact .inr ⟨x, hx, ck⟩))
 obtain ⟨K4, e4⟩ := same_ev hb
 obtain ⟨K5, e5⟩ := sm_ev ha b
 obtain ⟨K6, e6⟩ := fcl_ev (x := b) ⟨8, gb⟩
 obtain ⟨K7, e7⟩ := h1
 obtain ⟨K8, e8⟩ := h2
 refine .inr ⟨K1 + K2 + K3 + K4 + K5 + K6 + K7 + K8, (g ++ o).map (mkc []), b, b, _, e1 _ (by omega), ⟨e7 _ (by omega), by rw [List.length_map, List.length_append]; omega, fun c hc => ?_, e2 _ (by omega), e8 _ (by omega), e6 _ (by omega)⟩, e4 _ (by omega), e5 _ (by omega), ?_⟩
 ·obtain ⟨d, hd, rfl⟩ := List.mem_map.1 hc
  exact e3 _ (by omega) d hd
 ·rw [List.length_map, Bool.eq_iff_iff, beq_iff_eq, beq_iff_eq]
  constructor
  ·intro h
   have h0 : g ++ o = [] := List.eq_nil_of_length_eq_zero h
   rw [h0, papp] at hap
   injection hap with hap
   rw [hap]
   exact Ord.cv_self _ _
  ·intro h
   obtain ⟨rfl, rfl⟩ := he (cv_zero n a b (ord_fits n a ha) h)
   rfl
end Go.Proofs.YtlofkjdcapbohaaGreatDoor.Pure
