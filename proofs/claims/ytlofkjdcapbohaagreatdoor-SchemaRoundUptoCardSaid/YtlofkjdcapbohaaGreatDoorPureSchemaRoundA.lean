/- For SchemaRound: what SchemaValue writes of a field, and what is read back of it. -/
import Derived.Test.YtlofkjdcapbohaaGreatDoorPureConfFillsB
import Derived.Test.YtlofkjdcapbohaaGreatDoorCfQ
namespace Go.Proofs.YtlofkjdcapbohaaGreatDoor.Pure
open Go.RowKit Go.Proofs.YtlofkjdcapbohaaGreatDoor.PConfKeeps Go.Proofs.YtlofkjdcapbohaaGreatDoorW.PrintWords Go.Proofs.YtlofkjdcapbohaaGreatDoorW.PrintLast Go.Proofs.YtlofkjdcapbohaaGreatDoorW.PrintMore
set_option linter.unusedVariables false
set_option linter.unusedSimpArgs false
theorem bl_irr (a : List UInt8) : Op.bytesLess a a = false := by rw [bless]; exact decide_eq_false (List.lt_irrefl _)
theorem bl_asym {a b : List UInt8} (h : Op.bytesLess a b = true) : Op.bytesLess b a = false := by
 rw [bless]; exact decide_eq_false (fun hq => List.lt_irrefl _ (List.lt_trans (sl_lt.1 h) hq))
/-- a key that is not there belongs at the place i -/
theorem find_new (v : S25) (key : ByteArray) (i : Nat) (hi : i ≤ v.f5.length) (h0 : (v.f5.take i).all (fun a => Op.bytesLess a.data.toList key.data.toList) = true) (h1 : (v.f5.drop i).all (fun a => Op.bytesLess key.data.toList a.data.toList) = true) (hl : v.f5.length ≤ 1000000000000) : conf_find.f v.f0 v.f1 v.f2 v.f3 v.f4 v.f5 key = some ((i : Int), false) := by
 have g0 : ∀ j (hj : j < v.f5.length), j < i → Op.bytesLess (v.f5[j]).toList key.toList = true := fun j hj hji => by
  rw [tl_eq, tl_eq]
  have hm : v.f5[j] ∈ v.f5.take i := List.mem_take_iff_getElem.2 ⟨j, by omega, rfl⟩
  exact List.all_eq_true.1 h0 _ hm
 have g1 : ∀ j (hj : j < v.f5.length), i ≤ j → Op.bytesLess key.toList (v.f5[j]).toList = true := fun j hj hji => by
  rw [tl_eq, tl_eq]
  have hm : v.f5[j] ∈ v.f5.drop i := List.mem_drop_iff_getElem.2 ⟨j - i, by omega, by congr 1; omega⟩
  exact List.all_eq_true.1 h1 _ hm
 have h : srch (geqAt v.f5 key) v.f5.length 0 v.f5.length = i := by
  refine srch_at _ i v.f5.length (fun j hj => ?_) (fun j h1 h2 => ?_) _ _ _ (Nat.zero_le _) (by omega) (Nat.le_refl _) (by omega)
  ·unfold geqAt
   rw [rdOf_at (show j < v.f5.length by omega), g0 j (by omega) hj]; rfl
  ·unfold geqAt
   rw [rdOf_at h2, bl_asym (g1 j h2 h1)]; rfl
 unfold conf_find.f sort_SearchStrings.f
 rw [if_pos hl, h, Option.bind_some]
 by_cases c : i < v.f5.length
 ·rw [if_pos (by omega), if_pos (by omega), rdOf_at c]
  have hne : v.f5[i].toList ≠ key.toList := fun he => by
   have := g1 i c (Nat.le_refl _)
   rw [he, bl_irr] at this; cases this
  simp [hne]
 ·rw [if_neg (by omega)]
theorem cput_new (t : S25) (key : ByteArray) (x : S25) (i : Nat) (hi : i ≤ t.f5.length) (h0 : (t.f5.take i).all (fun a => Op.bytesLess a.data.toList key.data.toList) = true) (h1 : (t.f5.drop i).all (fun a => Op.bytesLess key.data.toList a.data.toList) = true) (hl : t.f5.length ≤ 1000) (h4 : t.f4.length = t.f5.length) :
  cput t key x = some ⟨6, false, 0, ⟨#[]⟩, t.f4.take i ++ [x] ++ t.f4.drop i, t.f5.take i ++ [key] ++ t.f5.drop i⟩ := by
 unfold cput
 rw [find_new t key i hi h0 h1 (by omega), Option.bind_some]
 dsimp only
 rw [if_pos ⟨by omega, by omega, by omega, by omega, by omega, fun h_ => by cases h_⟩, Int.toNat_natCast, if_neg (by decide)]
theorem cput_k (xs : List S25) (ks : List ByteArray) (key : ByteArray) (x : S25) (i : Nat) (hk : (decide (i ≤ ks.length) && ((ks.take i).all (fun a => Op.bytesLess a.data.toList key.data.toList) && ((ks.drop i).all (fun a => Op.bytesLess key.data.toList a.data.toList) && decide (ks.length ≤ 1000)))) = true) (h4 : xs.length = ks.length) (ks' : List ByteArray) (hks : ks.take i ++ [key] ++ ks.drop i = ks') (xs' : List S25) (hxs : xs.take i ++ [x] ++ xs.drop i = xs') :
  cput ⟨6, false, 0, ⟨#[]⟩, xs, ks⟩ key x = some ⟨6, false, 0, ⟨#[]⟩, xs', ks'⟩ := by
 rw [Bool.and_eq_true, Bool.and_eq_true, Bool.and_eq_true] at hk
 rw [cput_new _ key x i (of_decide_eq_true hk.1) hk.2.1 hk.2.2.1 (of_decide_eq_true hk.2.2.2) h4, ← hks, ← hxs]
theorem rd25n {l : List S25} {i : Nat} {a : S25} (h : l[i]? = some a) : rd_T25 l (i : Int) = a := by
 unfold rd_T25; rw [Int.toNat_natCast, List.getD_eq_getElem?_getD, h]; rfl
theorem rdOfn {l : List ByteArray} {i : Nat} {a : ByteArray} (h : l[i]? = some a) : rdOf ByteArray.empty l (i : Int) = a := by
 unfold rdOf; rw [Int.toNat_natCast, List.getD_eq_getElem?_getD, h]; rfl
theorem item_new (v : S25) (ks : List ByteArray) (h5 : v.f5 = ks) (key : ByteArray) (i : Nat) (hi : i ≤ ks.length) (h0 : (ks.take i).all (fun a => Op.bytesLess a.data.toList key.data.toList) = true) (h1 : (ks.drop i).all (fun a => Op.bytesLess key.data.toList a.data.toList) = true) (hl : ks.length ≤ 1000) : cItem v key = some (z25, false) := by
 subst h5
 unfold cItem
 rw [find_new v key i hi h0 h1 (by omega), Option.bind_some]; rfl
/-- sorted as data -/
def srtb : List ByteArray → Bool
 | [] => true
 | a :: l => l.all (fun b => Op.bytesLess a.data.toList b.data.toList) && srtb l
theorem srtb_srt : ∀ {l : List ByteArray}, srtb l = true → Srt l
 | [], _ => List.Pairwise.nil
 | a :: l, h => by
  rw [srtb, Bool.and_eq_true] at h
  refine List.Pairwise.cons (fun b hb => ?_) (srtb_srt h.2)
  rw [tl_eq, tl_eq]; exact List.all_eq_true.1 h.1 b hb
theorem item_at (v : S25) (ks : List ByteArray) (hks : v.f5 = ks) (key : ByteArray) (i : Nat) (x : S25) (h5 : ks[i]? = some key) (h4 : v.f4[i]? = some x) (hs : srtb ks = true) (hl : ks.length ≤ 1000) : cItem v key = some (x, true) := by
 subst hks
 obtain ⟨k5, e5⟩ := List.getElem?_eq_some_iff.1 h5
 obtain ⟨k4, e4⟩ := List.getElem?_eq_some_iff.1 h4
 unfold cItem
 rw [find_at v key i k5 (srtb_srt hs) e5 (by omega), Option.bind_some]
 dsimp only
 rw [if_pos rfl, if_pos ⟨by omega, by omega⟩, rd25n h4]

abbrev q_default : ByteArray := ⟨#[100, 101, 102, 97, 117, 108, 116]⟩
abbrev q_kind : ByteArray := ⟨#[107, 105, 110, 100]⟩
abbrev q_max : ByteArray := ⟨#[109, 97, 120]⟩
abbrev q_min : ByteArray := ⟨#[109, 105, 110]⟩
abbrev q_need : ByteArray := ⟨#[110, 101, 101, 100]⟩
abbrev q_oneof : ByteArray := ⟨#[111, 110, 101, 111, 102]⟩
abbrev q_route : ByteArray := ⟨#[114, 111, 117, 116, 101]⟩
/-- the keys of a field's table: b: bounded, o: one of, d: a default -/
def shK (b o d : Bool) : List ByteArray := (if d = true then [q_default] else []) ++ ([q_kind] ++ ((if b = true then [q_max, q_min] else []) ++ ([q_need] ++ ((if o = true then [q_oneof] else []) ++ [q_route]))))
def shV (f : S44) (kn : ByteArray) (b o d : Bool) : List S25 := (if d = true then [f.f7] else []) ++ ([vS kn] ++ ((if b = true then [vI f.f5, vI f.f4] else []) ++ ([vB f.f2] ++ ((if o = true then [vL (f.f6.map vS)] else []) ++ [vS f.f0]))))
def shT (f : S44) (kn : ByteArray) (b o d : Bool) : S25 := ⟨6, false, 0, ⟨#[]⟩, shV f kn b o d, shK b o d⟩
theorem sh_len (f : S44) (kn : ByteArray) (b o d : Bool) : (shV f kn b o d).length = (shK b o d).length ∧ (shK b o d).length ≤ 7 := by
 cases b <;> cases o <;> cases d <;> exact ⟨rfl, by decide⟩
theorem field_v {k : Nat} (f : S44) (kn : ByteArray) (hk : kName f.f1 = some kn) (h6 : f.f6.length ≤ 2000000) (h7 : f.f7.f0 ≠ 0 → Fcl k f.f7 = some f.f7) :
  fieldV k f = some (shT f kn f.f3 (f.f6.length != 0) (f.f7.f0 != 0)) := by
 unfold fieldV
 rw [cput_k [] [] q_route (vS f.f0) 0 (by decide) rfl [q_route] rfl [vS f.f0] rfl, Option.bind_some, hk, Option.bind_some]
 rw [cput_k [vS f.f0] [q_route] q_kind (vS kn) 0 (by decide) rfl [q_kind, q_route] rfl [vS kn, vS f.f0] rfl, Option.bind_some]
 rw [cput_k [vS kn, vS f.f0] [q_kind, q_route] q_need (vB f.f2) 1 (by decide) rfl [q_kind, q_need, q_route] rfl [vS kn, vB f.f2, vS f.f0] rfl, Option.bind_some]
 have hb : fBnd f (shT f kn false false false) = some (shT f kn f.f3 false false) := by
  unfold fBnd
  cases hb : f.f3 with
  | false => rw [if_neg (by decide)]
  | true =>
   rw [if_pos rfl, show cput (shT f kn false false false) q_max (vI f.f5) = some ⟨6, false, 0, ⟨#[]⟩, [vS kn, vI f.f5, vB f.f2, vS f.f0], [q_kind, q_max, q_need, q_route]⟩ from cput_k [vS kn, vB f.f2, vS f.f0] [q_kind, q_need, q_route] q_max (vI f.f5) 1 (by decide) rfl _ rfl _ rfl, Option.bind_some]
   exact cput_k [vS kn, vI f.f5, vB f.f2, vS f.f0] [q_kind, q_max, q_need, q_route] q_min (vI f.f4) 2 (by decide) rfl _ rfl _ rfl
 refine (congrArg (fun z => Option.bind z _) hb).trans ?_
 rw [Option.bind_some]
 have ho : ∀ b, fOne f (shT f kn b false false) = some (shT f kn b (f.f6.length != 0) false) := by
  intro b
  unfold fOne
  by_cases c : f.f6.length = 0
  ·rw [if_pos c, show (f.f6.length != 0) = false from bne_eq_false_iff_eq.2 c]
  ·rw [if_neg c, if_pos h6, show (f.f6.length != 0) = true from bne_iff_ne.2 c]
   cases b with
   | false => exact cput_k [vS kn, vB f.f2, vS f.f0] [q_kind, q_need, q_route] q_oneof (vL (f.f6.map vS)) 2 (by decide) rfl _ rfl _ rfl
   | true => exact cput_k [vS kn, vI f.f5, vI f.f4, vB f.f2, vS f.f0] [q_kind, q_max, q_min, q_need, q_route] q_oneof (vL (f.f6.map vS)) 4 (by decide) rfl _ rfl _ rfl
 rw [ho, Option.bind_some]
 unfold fDef
 by_cases c : f.f7.f0 = 0
 ·rw [if_pos c, show (f.f7.f0 != 0) = false from bne_eq_false_iff_eq.2 c]
 ·rw [if_neg c, h7 c, Option.bind_some, show (f.f7.f0 != 0) = true from bne_iff_ne.2 c]
  generalize (f.f6.length != 0) = o
  generalize f.f3 = b
  cases b <;> cases o
  ·exact cput_k (shV f kn false false false) [q_kind, q_need, q_route] q_default f.f7 0 (by decide) rfl _ rfl _ rfl
  ·exact cput_k (shV f kn false true false) [q_kind, q_need, q_oneof, q_route] q_default f.f7 0 (by decide) rfl _ rfl _ rfl
  ·exact cput_k (shV f kn true false false) [q_kind, q_max, q_min, q_need, q_route] q_default f.f7 0 (by decide) rfl _ rfl _ rfl
  ·exact cput_k (shV f kn true true false) [q_kind, q_max, q_min, q_need, q_oneof, q_route] q_default f.f7 0 (by decide) rfl _ rfl _ rfl

theorem rF_route (k : Nat) (x : S25) (f : S44) : rF k q_route x f = some { f with f0 := x.f3 } := by
 unfold rF
 rw [tl_eq, if_pos (by decide)]
theorem rF_kind (k : Nat) (x : S25) (f : S44) : rF k q_kind x f = some { f with f1 := (kOf x.f3).1 } := by
 unfold rF
 rw [tl_eq, if_neg (by decide), if_pos (by decide)]
theorem rF_need (k : Nat) (x : S25) (f : S44) : rF k q_need x f = some { f with f2 := x.f1 } := by
 unfold rF
 rw [tl_eq, if_neg (by decide), if_neg (by decide), if_pos (by decide)]
theorem rF_min (k : Nat) (x : S25) (f : S44) : rF k q_min x f = some { f with f3 := true, f4 := x.f2 } := by
 unfold rF
 rw [tl_eq, if_neg (by decide), if_neg (by decide), if_neg (by decide), if_pos (by decide)]
theorem rF_max (k : Nat) (x : S25) (f : S44) : rF k q_max x f = some { f with f3 := true, f5 := x.f2 } := by
 unfold rF
 rw [tl_eq, if_neg (by decide), if_neg (by decide), if_neg (by decide), if_neg (by decide), if_pos (by decide)]
theorem rF_oneof (k : Nat) (x : S25) (f : S44) (h : f.f6 = [] ∧ x.f4.length ≤ 1000000) : rF k q_oneof x f = some { f with f6 := x.f4.map (fun y => y.f3) } := by
 unfold rF
 rw [tl_eq, if_neg (by decide), if_neg (by decide), if_neg (by decide), if_neg (by decide), if_neg (by decide), if_pos (by decide)]
 rw [if_pos h]
theorem rF_default (k : Nat) (x : S25) (f : S44) (c : S25) (h : Fcl k x = some c) : rF k q_default x f = some { f with f7 := c } := by
 unfold rF
 rw [tl_eq, if_neg (by decide), if_neg (by decide), if_neg (by decide), if_neg (by decide), if_neg (by decide), if_neg (by decide), if_pos (by decide)]
 rw [h, Option.bind_some]
theorem fK_default : fK q_default = -1 := by
 unfold fK
 rw [tl_eq, if_neg (by decide), if_neg (by decide), if_neg (by decide), if_neg (by decide), if_neg (by decide), if_neg (by decide)]
theorem fK_kind : fK q_kind = 3 := by
 unfold fK
 rw [tl_eq, if_neg (by decide), if_pos (by decide)]
theorem fK_max : fK q_max = 2 := by
 unfold fK
 rw [tl_eq, if_neg (by decide), if_neg (by decide), if_neg (by decide), if_pos (by decide)]
theorem fK_min : fK q_min = 2 := by
 unfold fK
 rw [tl_eq, if_neg (by decide), if_neg (by decide), if_neg (by decide), if_neg (by decide), if_pos (by decide)]
theorem fK_need : fK q_need = 1 := by
 unfold fK
 rw [tl_eq, if_neg (by decide), if_neg (by decide), if_pos (by decide)]
theorem fK_oneof : fK q_oneof = 5 := by
 unfold fK
 rw [tl_eq, if_neg (by decide), if_neg (by decide), if_neg (by decide), if_neg (by decide), if_neg (by decide), if_pos (by decide)]
theorem fK_route : fK q_route = 3 := by
 unfold fK
 rw [tl_eq, if_pos (by decide)]
/-- a kind that CheckSchema lets pass has a name, that tells it -/
theorem kind_v (n : Int) (h : n = -1 ∨ (0 ≤ n ∧ n ≤ 6)) : ∃ kn, kName n = some kn ∧ kOf kn = (n, true) := by
 have hk : ∀ (i : Nat) (s : ByteArray), kNames[i]? = some s → rdOf ByteArray.empty kNames (i : Int) = s := fun i s h => rdOfn h
 rcases h with rfl | ⟨h0, h1⟩
 ·refine ⟨⟨#[97, 110, 121]⟩, rfl, ?_⟩
  unfold kOf
  rw [tl_eq, if_pos (by decide)]
 ·have hn : kName n = some (rdOf ByteArray.empty kNames n) := by unfold kName; rw [if_neg (by omega), if_pos ⟨h0, by omega⟩]
  refine ⟨_, hn, ?_⟩
  have hc : n = 0 ∨ n = 1 ∨ n = 2 ∨ n = 3 ∨ n = 4 ∨ n = 5 ∨ n = 6 := by omega
  have r0 := hk 0 _ rfl
  have r1 := hk 1 _ rfl
  have r2 := hk 2 _ rfl
  have r3 := hk 3 _ rfl
  have r4 := hk 4 _ rfl
  have r5 := hk 5 _ rfl
  have r6 := hk 6 _ rfl
  rcases hc with rfl | rfl | rfl | rfl | rfl | rfl | rfl
  ·have e_ : rdOf ByteArray.empty kNames (0 : Int) = _ := r0
   rw [e_]
   unfold kOf
   rw [tl_eq, if_neg (by decide)]
   rw [kOfl, r0, tl_eq, if_pos rfl]; rfl
  ·have e_ : rdOf ByteArray.empty kNames (1 : Int) = _ := r1
   rw [e_]
   unfold kOf
   rw [tl_eq, if_neg (by decide)]
   rw [kOfl, r0, tl_eq, tl_eq, if_neg (by decide)]; rw [kOfl, r1, tl_eq, if_pos rfl]; rfl
  ·have e_ : rdOf ByteArray.empty kNames (2 : Int) = _ := r2
   rw [e_]
   unfold kOf
   rw [tl_eq, if_neg (by decide)]
   rw [kOfl, r0, tl_eq, tl_eq, if_neg (by decide)]; rw [kOfl, r1, tl_eq, tl_eq, if_neg (by decide)]; rw [kOfl, r2, tl_eq, if_pos rfl]; rfl
  ·have e_ : rdOf ByteArray.empty kNames (3 : Int) = _ := r3
   rw [e_]
   unfold kOf
   rw [tl_eq, if_neg (by decide)]
   rw [kOfl, r0, tl_eq, tl_eq, if_neg (by decide)]; rw [kOfl, r1, tl_eq, tl_eq, if_neg (by decide)]; rw [kOfl, r2, tl_eq, tl_eq, if_neg (by decide)]; rw [kOfl, r3, tl_eq, if_pos rfl]; rfl
  ·have e_ : rdOf ByteArray.empty kNames (4 : Int) = _ := r4
   rw [e_]
   unfold kOf
   rw [tl_eq, if_neg (by decide)]
   rw [kOfl, r0, tl_eq, tl_eq, if_neg (by decide)]; rw [kOfl, r1, tl_eq, tl_eq, if_neg (by decide)]; rw [kOfl, r2, tl_eq, tl_eq, if_neg (by decide)]; rw [kOfl, r3, tl_eq, tl_eq, if_neg (by decide)]; rw [kOfl, r4, tl_eq, if_pos rfl]; rfl
  ·have e_ : rdOf ByteArray.empty kNames (5 : Int) = _ := r5
   rw [e_]
   unfold kOf
   rw [tl_eq, if_neg (by decide)]
   rw [kOfl, r0, tl_eq, tl_eq, if_neg (by decide)]; rw [kOfl, r1, tl_eq, tl_eq, if_neg (by decide)]; rw [kOfl, r2, tl_eq, tl_eq, if_neg (by decide)]; rw [kOfl, r3, tl_eq, tl_eq, if_neg (by decide)]; rw [kOfl, r4, tl_eq, tl_eq, if_neg (by decide)]; rw [kOfl, r5, tl_eq, if_pos rfl]; rfl
  ·have e_ : rdOf ByteArray.empty kNames (6 : Int) = _ := r6
   rw [e_]
   unfold kOf
   rw [tl_eq, if_neg (by decide)]
   rw [kOfl, r0, tl_eq, tl_eq, if_neg (by decide)]; rw [kOfl, r1, tl_eq, tl_eq, if_neg (by decide)]; rw [kOfl, r2, tl_eq, tl_eq, if_neg (by decide)]; rw [kOfl, r3, tl_eq, tl_eq, if_neg (by decide)]; rw [kOfl, r4, tl_eq, tl_eq, if_neg (by decide)]; rw [kOfl, r5, tl_eq, tl_eq, if_neg (by decide)]; rw [kOfl, r6, tl_eq, if_pos rfl]; rfl
theorem rF_kind' (k : Nat) (x : S25) (f : S44) (n : Int) (h : kOf x.f3 = (n, true)) : rF k q_kind x f = some { f with f1 := n } := by rw [rF_kind, h]
theorem rFl_step {k : Nat} {t : S25} {n i : Nat} {f g : S44} {key : ByteArray} {x : S25} {r : Option S44} (hk : t.f5[i]? = some key) (hx : t.f4[i]? = some x) (hr : rF k key x f = some g) (h : rFl k t n (i + 1) g = r) : rFl k t (n + 1) i f = r := by
 rw [rFl, rdOfn hk, rd25n hx, hr, Option.bind_some, h]
theorem read_sh {k : Nat} (f : S44) (kn : ByteArray) (b o d : Bool) (h1 : kOf kn = (f.f1, true)) (ho : o = true → f.f6.length ≤ 1000000) (hd : d = true → Fcl k f.f7 = some f.f7) :
  rFl k (shT f kn b o d) (shK b o d).length 0 z44 = some ⟨f.f0, f.f1, f.f2, b, if b = true then f.f4 else 0, if b = true then f.f5 else 0, if o = true then (f.f6.map vS).map (fun y => y.f3) else [], if d = true then f.f7 else z25⟩ := by
 have hl : o = true → (vL (f.f6.map vS)).f4.length ≤ 1000000 := fun h => by show (f.f6.map vS).length ≤ _; rw [List.length_map]; exact ho h
 cases b <;> cases o <;> cases d
 ·show rFl k _ 3 0 z44 = _
  refine rFl_step rfl rfl (rF_kind' _ _ _ f.f1 h1) ?_
  refine rFl_step rfl rfl (rF_need _ _ _) ?_
  refine rFl_step rfl rfl (rF_route _ _ _) ?_
  rfl
 ·show rFl k _ 4 0 z44 = _
  refine rFl_step rfl rfl (rF_default _ _ _ f.f7 (hd rfl)) ?_
  refine rFl_step rfl rfl (rF_kind' _ _ _ f.f1 h1) ?_
  refine rFl_step rfl rfl (rF_need _ _ _) ?_
  refine rFl_step rfl rfl (rF_route _ _ _) ?_
  rfl
 ·show rFl k _ 4 0 z44 = _
  refine rFl_step rfl rfl (rF_kind' _ _ _ f.f1 h1) ?_
  refine rFl_step rfl rfl (rF_need _ _ _) ?_
  refine rFl_step rfl rfl (rF_oneof _ _ _ ⟨rfl, hl rfl⟩) ?_
  refine rFl_step rfl rfl (rF_route _ _ _) ?_
  rfl
 ·show rFl k _ 5 0 z44 = _
  refine rFl_step rfl rfl (rF_default _ _ _ f.f7 (hd rfl)) ?_
  refine rFl_step rfl rfl (rF_kind' _ _ _ f.f1 h1) ?_
  refine rFl_step rfl rfl (rF_need _ _ _) ?_
  refine rFl_step rfl rfl (rF_oneof _ _ _ ⟨rfl, hl rfl⟩) ?_
  refine rFl_step rfl rfl (rF_route _ _ _) ?_
  rfl
 ·show rFl k _ 5 0 z44 = _
  refine rFl_step rfl rfl (rF_kind' _ _ _ f.f1 h1) ?_
  refine rFl_step rfl rfl (rF_max _ _ _) ?_
  refine rFl_step rfl rfl (rF_min _ _ _) ?_
  refine rFl_step rfl rfl (rF_need _ _ _) ?_
  refine rFl_step rfl rfl (rF_route _ _ _) ?_
  rfl
 ·show rFl k _ 6 0 z44 = _
  refine rFl_step rfl rfl (rF_default _ _ _ f.f7 (hd rfl)) ?_
  refine rFl_step rfl rfl (rF_kind' _ _ _ f.f1 h1) ?_
  refine rFl_step rfl rfl (rF_max _ _ _) ?_
  refine rFl_step rfl rfl (rF_min _ _ _) ?_
  refine rFl_step rfl rfl (rF_need _ _ _) ?_
  refine rFl_step rfl rfl (rF_route _ _ _) ?_
  rfl
 ·show rFl k _ 6 0 z44 = _
  refine rFl_step rfl rfl (rF_kind' _ _ _ f.f1 h1) ?_
  refine rFl_step rfl rfl (rF_max _ _ _) ?_
  refine rFl_step rfl rfl (rF_min _ _ _) ?_
  refine rFl_step rfl rfl (rF_need _ _ _) ?_
  refine rFl_step rfl rfl (rF_oneof _ _ _ ⟨rfl, hl rfl⟩) ?_
  refine rFl_step rfl rfl (rF_route _ _ _) ?_
  rfl
 ·show rFl k _ 7 0 z44 = _
  refine rFl_step rfl rfl (rF_default _ _ _ f.f7 (hd rfl)) ?_
  refine rFl_step rfl rfl (rF_kind' _ _ _ f.f1 h1) ?_
  refine rFl_step rfl rfl (rF_max _ _ _) ?_
  refine rFl_step rfl rfl (rF_min _ _ _) ?_
  refine rFl_step rfl rfl (rF_need _ _ _) ?_
  refine rFl_step rfl rfl (rF_oneof _ _ _ ⟨rfl, hl rfl⟩) ?_
  refine rFl_step rfl rfl (rF_route _ _ _) ?_
  rfl
theorem lack_sh (f : S44) (kn : ByteArray) (b o d : Bool) : cLack (shT f kn b o d) = some false := by
 unfold cLack
 cases b <;> cases o <;> cases d
 ·rw [item_at _ [q_kind, q_need, q_route] rfl q_route 2 _ rfl rfl (by decide) (by decide), Option.bind_some, item_at _ [q_kind, q_need, q_route] rfl q_kind 0 _ rfl rfl (by decide) (by decide), Option.bind_some, item_new _ [q_kind, q_need, q_route] rfl q_min 1 (by decide) (by decide) (by decide) (by decide), Option.bind_some, item_new _ [q_kind, q_need, q_route] rfl q_max 1 (by decide) (by decide) (by decide) (by decide), Option.bind_some]; rfl
 ·rw [item_at _ [q_default, q_kind, q_need, q_route] rfl q_route 3 _ rfl rfl (by decide) (by decide), Option.bind_some, item_at _ [q_default, q_kind, q_need, q_route] rfl q_kind 1 _ rfl rfl (by decide) (by decide), Option.bind_some, item_new _ [q_default, q_kind, q_need, q_route] rfl q_min 2 (by decide) (by decide) (by decide) (by decide), Option.bind_some, item_new _ [q_default, q_kind, q_need, q_route] rfl q_max 2 (by decide) (by decide) (by decide) (by decide), Option.bind_some]; rfl
 ·rw [item_at _ [q_kind, q_need, q_oneof, q_route] rfl q_route 3 _ rfl rfl (by decide) (by decide), Option.bind_some, item_at _ [q_kind, q_need, q_oneof, q_route] rfl q_kind 0 _ rfl rfl (by decide) (by decide), Option.bind_some, item_new _ [q_kind, q_need, q_oneof, q_route] rfl q_min 1 (by decide) (by decide) (by decide) (by decide), Option.bind_some, item_new _ [q_kind, q_need, q_oneof, q_route] rfl q_max 1 (by decide) (by decide) (by decide) (by decide), Option.bind_some]; rfl
 ·rw [item_at _ [q_default, q_kind, q_need, q_oneof, q_route] rfl q_route 4 _ rfl rfl (by decide) (by decide), Option.bind_some, item_at _ [q_default, q_kind, q_need, q_oneof, q_route] rfl q_kind 1 _ rfl rfl (by decide) (by decide), Option.bind_some, item_new _ [q_default, q_kind, q_need, q_oneof, q_route] rfl q_min 2 (by decide) (by decide) (by decide) (by decide), Option.bind_some, item_new _ [q_default, q_kind, q_need, q_oneof, q_route] rfl q_max 2 (by decide) (by decide) (by decide) (by decide), Option.bind_some]; rfl
 ·rw [item_at _ [q_kind, q_max, q_min, q_need, q_route] rfl q_route 4 _ rfl rfl (by decide) (by decide), Option.bind_some, item_at _ [q_kind, q_max, q_min, q_need, q_route] rfl q_kind 0 _ rfl rfl (by decide) (by decide), Option.bind_some, item_at _ [q_kind, q_max, q_min, q_need, q_route] rfl q_min 2 _ rfl rfl (by decide) (by decide), Option.bind_some, item_at _ [q_kind, q_max, q_min, q_need, q_route] rfl q_max 1 _ rfl rfl (by decide) (by decide), Option.bind_some]; rfl
 ·rw [item_at _ [q_default, q_kind, q_max, q_min, q_need, q_route] rfl q_route 5 _ rfl rfl (by decide) (by decide), Option.bind_some, item_at _ [q_default, q_kind, q_max, q_min, q_need, q_route] rfl q_kind 1 _ rfl rfl (by decide) (by decide), Option.bind_some, item_at _ [q_default, q_kind, q_max, q_min, q_need, q_route] rfl q_min 3 _ rfl rfl (by decide) (by decide), Option.bind_some, item_at _ [q_default, q_kind, q_max, q_min, q_need, q_route] rfl q_max 2 _ rfl rfl (by decide) (by decide), Option.bind_some]; rfl
 ·rw [item_at _ [q_kind, q_max, q_min, q_need, q_oneof, q_route] rfl q_route 5 _ rfl rfl (by decide) (by decide), Option.bind_some, item_at _ [q_kind, q_max, q_min, q_need, q_oneof, q_route] rfl q_kind 0 _ rfl rfl (by decide) (by decide), Option.bind_some, item_at _ [q_kind, q_max, q_min, q_need, q_oneof, q_route] rfl q_min 2 _ rfl rfl (by decide) (by decide), Option.bind_some, item_at _ [q_kind, q_max, q_min, q_need, q_oneof, q_route] rfl q_max 1 _ rfl rfl (by decide) (by decide), Option.bind_some]; rfl
 ·rw [item_at _ [q_default, q_kind, q_max, q_min, q_need, q_oneof, q_route] rfl q_route 6 _ rfl rfl (by decide) (by decide), Option.bind_some, item_at _ [q_default, q_kind, q_max, q_min, q_need, q_oneof, q_route] rfl q_kind 1 _ rfl rfl (by decide) (by decide), Option.bind_some, item_at _ [q_default, q_kind, q_max, q_min, q_need, q_oneof, q_route] rfl q_min 3 _ rfl rfl (by decide) (by decide), Option.bind_some, item_at _ [q_default, q_kind, q_max, q_min, q_need, q_oneof, q_route] rfl q_max 2 _ rfl rfl (by decide) (by decide), Option.bind_some]; rfl
/-- what holds of each key with its item holds by numbers -/
theorem of_zip {P : ByteArray → S25 → Prop} {ks : List ByteArray} {xs : List S25} (h : ∀ p ∈ ks.zip xs, P p.1 p.2) (hl : ks.length ≤ xs.length) (i : Nat) (hi : i < ks.length) : P (rdOf ByteArray.empty ks (i : Int)) (rd_T25 xs (i : Int)) := by
 rw [rdOf_at hi, rd25n (List.getElem?_eq_getElem (show i < xs.length by omega))]
 exact h (ks[i], xs[i]) (List.mem_iff_getElem.2 ⟨i, by rw [List.length_zip]; omega, by rw [List.getElem_zip]⟩)
theorem kd_default (f : S44) (kn : ByteArray) : KdOk q_default f.f7 := ⟨fun h_ => absurd fK_default h_, fun h_ => absurd h_ (by rw [tl_eq]; decide)⟩
theorem nm_default (f : S44) (kn : ByteArray) (h : ∃ n, kOf kn = (n, true)) : NmOk q_default f.f7 := ⟨fun _ => by rw [tl_eq], fun h_ => absurd h_ (by rw [tl_eq]; decide)⟩
theorem kd_kind (f : S44) (kn : ByteArray) : KdOk q_kind (vS kn) := ⟨fun _ => by rw [fK_kind], fun h_ => absurd h_ (by rw [tl_eq]; decide)⟩
theorem nm_kind (f : S44) (kn : ByteArray) (h : ∃ n, kOf kn = (n, true)) : NmOk q_kind (vS kn) := ⟨fun h_ => absurd (h_.symm.trans fK_kind) (by decide), fun _ => h⟩
theorem kd_max (f : S44) (kn : ByteArray) : KdOk q_max (vI f.f5) := ⟨fun _ => by rw [fK_max], fun h_ => absurd h_ (by rw [tl_eq]; decide)⟩
theorem nm_max (f : S44) (kn : ByteArray) (h : ∃ n, kOf kn = (n, true)) : NmOk q_max (vI f.f5) := ⟨fun h_ => absurd (h_.symm.trans fK_max) (by decide), fun h_ => absurd h_ (by rw [tl_eq]; decide)⟩
theorem kd_min (f : S44) (kn : ByteArray) : KdOk q_min (vI f.f4) := ⟨fun _ => by rw [fK_min], fun h_ => absurd h_ (by rw [tl_eq]; decide)⟩
theorem nm_min (f : S44) (kn : ByteArray) (h : ∃ n, kOf kn = (n, true)) : NmOk q_min (vI f.f4) := ⟨fun h_ => absurd (h_.symm.trans fK_min) (by decide), fun h_ => absurd h_ (by rw [tl_eq]; decide)⟩
theorem kd_need (f : S44) (kn : ByteArray) : KdOk q_need (vB f.f2) := ⟨fun _ => by rw [fK_need], fun h_ => absurd h_ (by rw [tl_eq]; decide)⟩
theorem nm_need (f : S44) (kn : ByteArray) (h : ∃ n, kOf kn = (n, true)) : NmOk q_need (vB f.f2) := ⟨fun h_ => absurd (h_.symm.trans fK_need) (by decide), fun h_ => absurd h_ (by rw [tl_eq]; decide)⟩
theorem kd_oneof (f : S44) (kn : ByteArray) : KdOk q_oneof (vL (f.f6.map vS)) := ⟨fun _ => by rw [fK_oneof], fun _ y hy => by
  obtain ⟨s, _, rfl⟩ := List.mem_map.1 hy
  rfl⟩
theorem nm_oneof (f : S44) (kn : ByteArray) (h : ∃ n, kOf kn = (n, true)) : NmOk q_oneof (vL (f.f6.map vS)) := ⟨fun h_ => absurd (h_.symm.trans fK_oneof) (by decide), fun h_ => absurd h_ (by rw [tl_eq]; decide)⟩
theorem kd_route (f : S44) (kn : ByteArray) : KdOk q_route (vS f.f0) := ⟨fun _ => by rw [fK_route], fun h_ => absurd h_ (by rw [tl_eq]; decide)⟩
theorem nm_route (f : S44) (kn : ByteArray) (h : ∃ n, kOf kn = (n, true)) : NmOk q_route (vS f.f0) := ⟨fun h_ => absurd (h_.symm.trans fK_route) (by decide), fun h_ => absurd h_ (by rw [tl_eq]; decide)⟩
theorem kd_sh (f : S44) (kn : ByteArray) (b o d : Bool) (i : Nat) (hi : i < (shK b o d).length) : KdOk (rdOf ByteArray.empty (shK b o d) (i : Int)) (rd_T25 (shV f kn b o d) (i : Int)) := by
 refine of_zip (fun p hp => ?_) (Nat.le_of_eq (sh_len f kn b o d).1.symm) i hi
 have hm : p = (q_default, f.f7) ∨ p = (q_kind, (vS kn)) ∨ p = (q_max, (vI f.f5)) ∨ p = (q_min, (vI f.f4)) ∨ p = (q_need, (vB f.f2)) ∨ p = (q_oneof, (vL (f.f6.map vS))) ∨ p = (q_route, (vS f.f0)) := by
  cases b <;> cases o <;> cases d
  ·simp only [shK, shV, Bool.false_eq_true, List.nil_append, List.cons_append, List.zip_cons_cons, List.zip_nil_left, List.mem_cons, List.not_mem_nil, or_false, if_true, if_false] at hp
   rcases hp with hp | hp | hp <;> simp [hp]
  ·simp only [shK, shV, Bool.false_eq_true, List.nil_append, List.cons_append, List.zip_cons_cons, List.zip_nil_left, List.mem_cons, List.not_mem_nil, or_false, if_true, if_false] at hp
   rcases hp with hp | hp | hp | hp <;> simp [hp]
  ·simp only [shK, shV, Bool.false_eq_true, List.nil_append, List.cons_append, List.zip_cons_cons, List.zip_nil_left, List.mem_cons, List.not_mem_nil, or_false, if_true, if_false] at hp
   rcases hp with hp | hp | hp | hp <;> simp [hp]
  ·simp only [shK, shV, Bool.false_eq_true, List.nil_append, List.cons_append, List.zip_cons_cons, List.zip_nil_left, List.mem_cons, List.not_mem_nil, or_false, if_true, if_false] at hp
   rcases hp with hp | hp | hp | hp | hp <;> simp [hp]
  ·simp only [shK, shV, Bool.false_eq_true, List.nil_append, List.cons_append, List.zip_cons_cons, List.zip_nil_left, List.mem_cons, List.not_mem_nil, or_false, if_true, if_false] at hp
   rcases hp with hp | hp | hp | hp | hp <;> simp [hp]
  ·simp only [shK, shV, Bool.false_eq_true, List.nil_append, List.cons_append, List.zip_cons_cons, List.zip_nil_left, List.mem_cons, List.not_mem_nil, or_false, if_true, if_false] at hp
   rcases hp with hp | hp | hp | hp | hp | hp <;> simp [hp]
  ·simp only [shK, shV, Bool.false_eq_true, List.nil_append, List.cons_append, List.zip_cons_cons, List.zip_nil_left, List.mem_cons, List.not_mem_nil, or_false, if_true, if_false] at hp
   rcases hp with hp | hp | hp | hp | hp | hp <;> simp [hp]
  ·simp only [shK, shV, Bool.false_eq_true, List.nil_append, List.cons_append, List.zip_cons_cons, List.zip_nil_left, List.mem_cons, List.not_mem_nil, or_false, if_true, if_false] at hp
   rcases hp with hp | hp | hp | hp | hp | hp | hp <;> simp [hp]
 rcases hm with rfl | rfl | rfl | rfl | rfl | rfl | rfl
 ·exact kd_default f kn
 ·exact kd_kind f kn
 ·exact kd_max f kn
 ·exact kd_min f kn
 ·exact kd_need f kn
 ·exact kd_oneof f kn
 ·exact kd_route f kn
theorem nm_sh (f : S44) (kn : ByteArray) (b o d : Bool) (h : ∃ n, kOf kn = (n, true)) (i : Nat) (hi : i < (shK b o d).length) : NmOk (rdOf ByteArray.empty (shK b o d) (i : Int)) (rd_T25 (shV f kn b o d) (i : Int)) := by
 refine of_zip (fun p hp => ?_) (Nat.le_of_eq (sh_len f kn b o d).1.symm) i hi
 have hm : p = (q_default, f.f7) ∨ p = (q_kind, (vS kn)) ∨ p = (q_max, (vI f.f5)) ∨ p = (q_min, (vI f.f4)) ∨ p = (q_need, (vB f.f2)) ∨ p = (q_oneof, (vL (f.f6.map vS))) ∨ p = (q_route, (vS f.f0)) := by
  cases b <;> cases o <;> cases d
  ·simp only [shK, shV, Bool.false_eq_true, List.nil_append, List.cons_append, List.zip_cons_cons, List.zip_nil_left, List.mem_cons, List.not_mem_nil, or_false, if_true, if_false] at hp
   rcases hp with hp | hp | hp <;> simp [hp]
  ·simp only [shK, shV, Bool.false_eq_true, List.nil_append, List.cons_append, List.zip_cons_cons, List.zip_nil_left, List.mem_cons, List.not_mem_nil, or_false, if_true, if_false] at hp
   rcases hp with hp | hp | hp | hp <;> simp [hp]
  ·simp only [shK, shV, Bool.false_eq_true, List.nil_append, List.cons_append, List.zip_cons_cons, List.zip_nil_left, List.mem_cons, List.not_mem_nil, or_false, if_true, if_false] at hp
   rcases hp with hp | hp | hp | hp <;> simp [hp]
  ·simp only [shK, shV, Bool.false_eq_true, List.nil_append, List.cons_append, List.zip_cons_cons, List.zip_nil_left, List.mem_cons, List.not_mem_nil, or_false, if_true, if_false] at hp
   rcases hp with hp | hp | hp | hp | hp <;> simp [hp]
  ·simp only [shK, shV, Bool.false_eq_true, List.nil_append, List.cons_append, List.zip_cons_cons, List.zip_nil_left, List.mem_cons, List.not_mem_nil, or_false, if_true, if_false] at hp
   rcases hp with hp | hp | hp | hp | hp <;> simp [hp]
  ·simp only [shK, shV, Bool.false_eq_true, List.nil_append, List.cons_append, List.zip_cons_cons, List.zip_nil_left, List.mem_cons, List.not_mem_nil, or_false, if_true, if_false] at hp
   rcases hp with hp | hp | hp | hp | hp | hp <;> simp [hp]
  ·simp only [shK, shV, Bool.false_eq_true, List.nil_append, List.cons_append, List.zip_cons_cons, List.zip_nil_left, List.mem_cons, List.not_mem_nil, or_false, if_true, if_false] at hp
   rcases hp with hp | hp | hp | hp | hp | hp <;> simp [hp]
  ·simp only [shK, shV, Bool.false_eq_true, List.nil_append, List.cons_append, List.zip_cons_cons, List.zip_nil_left, List.mem_cons, List.not_mem_nil, or_false, if_true, if_false] at hp
   rcases hp with hp | hp | hp | hp | hp | hp | hp <;> simp [hp]
 rcases hm with rfl | rfl | rfl | rfl | rfl | rfl | rfl
 ·exact nm_default f kn h
 ·exact nm_kind f kn h
 ·exact nm_max f kn h
 ·exact nm_min f kn h
 ·exact nm_need f kn h
 ·exact nm_oneof f kn h
 ·exact nm_route f kn h
end Go.Proofs.YtlofkjdcapbohaaGreatDoor.Pure
