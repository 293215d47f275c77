/- For TreeTranslates: The check of one page, walked: what it answers and what it writes into its two maps. No condition. -/
import Derived.Test.YtcgmieeojngceaaDoorScratchB
import Derived.Test.YtcgmieeojngceaaDoorPTreeTranslatesx1
import Derived.Test.YtcgmieeojngceaaDoorPTreeTranslatesx2
import Derived.Test.YtcgmieeojngceaaDoorPTreeTranslatesx7
import Derived.Test.YtcgmieeojngceaaDoorPTreeTranslatesx8
import Derived.Test.YtcgmieeojngceaaDoorLess
namespace Go.Proofs.YtcgmieeojngceaaDoor.PTreeTranslates
open Go.RowKit Go.Proofs.YtcgmieeojngceaaDoorW.PrintWords Go.Proofs.YtcgmieeojngceaaDoorW.PrintLast Go.Proofs.YtcgmieeojngceaaDoorW.PrintMore
set_option linter.unusedVariables false
set_option linter.unusedSimpArgs false
/-- n bools, told by the bits of a number -/
def ob (n m : Nat) : Array Bool := ((List.range n).map fun i => m.testBit i).toArray
def pg_key : ByteArray := ⟨#[107, 101, 121]⟩
abbrev PgS := List ((ByteArray × ByteArray) × Int)
abbrev PgA := List (ByteArray × Bool)
abbrev PgK := List ((ByteArray × ByteArray × ByteArray) × Bool)
def pg_b1 (k : Nat) (x : S39) : Option Bool := if x.f1.toList = [] then some false else (tree_isPath.f k x.f1).bind fun r => some (!r)
def pg_b2 (k : Nat) (l0 : List ByteArray) (x : S39) : Option Bool := (tree_isAddress.f k x.f3).bind fun r => if r = true then (if x.f1.toList = [] then (tree_rootOf.f l0 x.f2).bind fun s => some (x.f3.toList != s.toList) else some false) else some true
def pg_b3 (k : Nat) (l0 : List ByteArray) (l1 : List S39) (x : S39) (i : Nat) (n : Int) : Option Bool := if 0 < i then (tree_position.f k l0 (rd_T39 l1 ((i : Int) - 1)).f2).bind fun m => some (decide (n < m) || (m == n && !Op.bytesLess (rd_T39 l1 ((i : Int) - 1)).f3.toList x.f3.toList)) else some false
def pg_files (k : Nat) (x : S39) : Option Int := tree_filesFault.f k x.f0 x.f1 x.f2 x.f3 x.f4 x.f5.f0 x.f5.f1 x.f5.f2 x.f5.f3 x.f5.f4 x.f5.f5 x.f6 x.f7
def pg_tail (k : Nat) (l1 : List S39) (sc : PgS) (x : S39) : Option Int :=
 if x.f1.toList = [] then pg_files k x else (tree_cutLast.f k x.f1).bind fun d => if d.1.size ≤ maxLen then (match Mp.look sc (x.f2, d.1) with
  | none => some 7
  | some q => if 0 ≤ q ∧ q < l1.length then (tree_oneMore.f (rd_T39 l1 q).f3 x.f3).bind fun b => if b = true then pg_files k x else some 7 else none) else none
def pg_mid (k : Nat) (l1 : List S39) (sc : PgS) (ad : PgA) (ks : PgK) (x : S39) : Option (Int × PgA × PgK) :=
 (tree_translation.f k x.f5.f0 x.f5.f1 x.f5.f2 x.f5.f3 x.f5.f4 x.f5.f5 x.f1).bind fun t => if t.size ≤ maxLen then
  if ((Mp.look ad x.f3).getD false || ((Mp.look ks (pg_key, x.f2, x.f1)).getD false || (Mp.look ks (tr_key, x.f2, t)).getD false)) = true then some (6, ad, ks)
  else if (decide (x.f4 < 0) || (decide (2 < x.f4) || (x.f1.toList == [] && x.f4 != 2))) = true then some (1, ad, ks)
  else (pg_tail k l1 sc x).bind fun e => some (e, (x.f3, true) :: ad, ((tr_key, x.f2, t), true) :: ((pg_key, x.f2, x.f1), true) :: ks)
 else none
def pg_c (k : Nat) (l1 : List S39) (sc : PgS) (ad : PgA) (ks : PgK) (x : S39) : Option (Int × PgA × PgK) :=
 (conf_Check.f k x.f5.f0 x.f5.f1 x.f5.f2 x.f5.f3 x.f5.f4 x.f5.f5).bind fun e => if e = 0 then pg_mid k l1 sc ad ks x else some (e, ad, ks)
def pg_a3 (k : Nat) (l1 : List S39) (sc : PgS) (ad : PgA) (ks : PgK) (x : S39) (b : Bool) : Option (Int × PgA × PgK) := if b = true then some (5, ad, ks) else pg_c k l1 sc ad ks x
def pg_a2 (k : Nat) (l0 : List ByteArray) (l1 : List S39) (sc : PgS) (ad : PgA) (ks : PgK) (x : S39) (i : Nat) (n : Int) (b : Bool) : Option (Int × PgA × PgK) :=
 if b = true then some (3, ad, ks) else (pg_b3 k l0 l1 x i n).bind fun b3 => pg_a3 k l1 sc ad ks x b3
def pg_a1 (k : Nat) (l0 : List ByteArray) (l1 : List S39) (sc : PgS) (ad : PgA) (ks : PgK) (x : S39) (i : Nat) (n : Int) (b : Bool) : Option (Int × PgA × PgK) :=
 if b = true then some (3, ad, ks) else (pg_b2 k l0 x).bind fun b2 => pg_a2 k l0 l1 sc ad ks x i n b2
def pg (k : Nat) (l0 : List ByteArray) (l1 : List S39) (sc : PgS) (ad : PgA) (ks : PgK) (i : Nat) : Option (Int × PgA × PgK) :=
 if (rd_T39 l1 i).f1.size ≤ maxLen ∧ (rd_T39 l1 i).f2.size ≤ maxLen ∧ (rd_T39 l1 i).f3.size ≤ maxLen then
  (tree_position.f k l0 (rd_T39 l1 i).f2).bind fun n => if n < 0 then some (12, ad, ks) else (pg_b1 k (rd_T39 l1 i)).bind fun b1 => pg_a1 k l0 l1 sc ad ks (rd_T39 l1 i) i n b1
 else none
theorem lk_bool (o : Option Bool) : ((o.map VB).getD (VB false)) = .bool (o.getD false) := by cases o <;> rfl
theorem lk1 {b : Nat} {l : PgA} {W : World} (h : Mp.Is Tryd.prog 9 E1 VB b l W) (s : ByteArray) (hs : s.size ≤ maxLen) : (Instr.lookup 33 (.map (some b)) (.string s) false).run Tryd.prog W = .ok (.bool ((Mp.look l s).getD false)) W := by
 obtain ⟨q, hq⟩ := tm_q1 s hs
 have := h.lookup false tm_k1 Tryd.underlying33 (tm_z4 W) E1_inj hq
 rw [this, if_neg (by decide), lk_bool]
theorem lk3 {b : Nat} {l : PgK} {W : World} (h : Mp.Is Tryd.prog 60 E3 VB b l W) (s t u : ByteArray) (hs : s.size ≤ maxLen) (ht : t.size ≤ maxLen) (hu : u.size ≤ maxLen) : (Instr.lookup 46 (.map (some b)) (.agg #[.string s, .string t, .string u]) false).run Tryd.prog W = .ok (.bool ((Mp.look l (s, t, u)).getD false)) W := by
 obtain ⟨q, hq⟩ := tm_q3 (s, t, u) hs ht hu
 have := h.lookup false tm_k3 Tryd.underlying46 (tm_z4 W) E3_inj hq
 rw [show Value.agg #[.string s, .string t, .string u] = E3 (s, t, u) from rfl, this, if_neg (by decide), lk_bool]
theorem lk_int (o : Option Int) : ((o.map VI).getD (VI 0)) = .int .i64 (o.getD 0) := by cases o <;> rfl
theorem lk2 {b : Nat} {l : PgS} {W : World} (h : Mp.Is Tryd.prog 56 E2 VI b l W) (s t : ByteArray) (hs : s.size ≤ maxLen) (ht : t.size ≤ maxLen) : (Instr.lookup 44 (.map (some b)) (.agg #[.string s, .string t]) true).run Tryd.prog W = .ok (.tuple #[.int .i64 ((Mp.look l (s, t)).getD 0), .bool (Mp.look l (s, t)).isSome]) W := by
 obtain ⟨q, hq⟩ := tm_q2 (s, t) hs ht
 have := h.lookup true tm_k2 Tryd.underlying44 (tm_z3 W) E2_inj hq
 rw [show Value.agg #[.string s, .string t] = E2 (s, t) from rfl, this, if_pos rfl, lk_int]
theorem pg_keysize : (⟨#[107, 101, 121]⟩ : ByteArray).size ≤ maxLen := by decide
theorem tr_keysize : (⟨#[116, 114, 97, 110, 115, 108, 97, 116, 105, 111, 110]⟩ : ByteArray).size ≤ maxLen := by decide
structure CkAt (w : World) (g b1 b2 b3 : Nat) (u v : Value) (sc : PgS) (ad : PgA) (ks : PgK) (W : World) : Prop where
 Q : W.heap[g]? = some (.cells #[u, v, .map (some b1), .map (some b2), .map (some b3)] 48 (0, 0))
 M1 : Mp.Is Tryd.prog 56 E2 VI b1 sc W
 M2 : Mp.Is Tryd.prog 9 E1 VB b2 ad W
 M3 : Mp.Is Tryd.prog 60 E3 VB b3 ks W
 B : Below w.heap.size w W
 N1 : w.heap.size ≤ g
 N2 : w.heap.size ≤ b2
 N3 : w.heap.size ≤ b3
 D12 : b1 ≠ b2
 D13 : b1 ≠ b3
 D23 : b2 ≠ b3
section
variable {w W W1 : World} {g b1 b2 b3 : Nat} {u v : Value} {sc : PgS} {ad ad' : PgA} {ks ks' : PgK}
theorem CkAt.below (h : CkAt w g b1 b2 b3 u v sc ad ks W) (hb : Below W.heap.size W W1) : CkAt w g b1 b2 b3 u v sc ad ks W1 :=
 ⟨blk_below h.Q hb, h.M1.below hb, h.M2.below hb, h.M3.below hb, below_step h.B hb, h.N1, h.N2, h.N3, h.D12, h.D13, h.D23⟩
theorem CkAt.alloc (h : CkAt w g b1 b2 b3 u v sc ad ks W) (o : Obj) : CkAt w g b1 b2 b3 u v sc ad ks (W.alloc o) := h.below (below_alloc (Below.refl _ _) o)
theorem CkAt.drewN (h : CkAt w g b1 b2 b3 u v sc ad ks W) (n : Nat) : CkAt w g b1 b2 b3 u v sc ad ks (W.drewN n) := h.below (pw_below_drewN (Below.refl _ _) n)
theorem CkAt.drew (h : CkAt w g b1 b2 b3 u v sc ad ks W) : CkAt w g b1 b2 b3 u v sc ad ks W.drew := h.below (below_drew (Below.refl _ _))
theorem CkAt.set {s : Nat} {cs : Array Value} (h : CkAt w g b1 b2 b3 u v sc ad ks W) (hs : W.heap[s]? = some (.cells cs 60 (0, 0))) (hw : w.heap.size ≤ s) (i : Nat) (z : Value) : CkAt w g b1 b2 b3 u v sc ad ks (W.setCell ⟨s, i, none⟩ z) :=
 ⟨blk_far h.Q (p := ⟨s, i, none⟩) (blk_ne h.Q hs (by decide)) z, h.M1.block (Below.heap_setCell _ ⟨s, i, none⟩ z b1 (h.M1.ne hs).symm), h.M2.block (Below.heap_setCell _ ⟨s, i, none⟩ z b2 (h.M2.ne hs).symm), h.M3.block (Below.heap_setCell _ ⟨s, i, none⟩ z b3 (h.M3.ne hs).symm), below_set h.B hw, h.N1, h.N2, h.N3, h.D12, h.D13, h.D23⟩
theorem CkAt.put2 (h : CkAt w g b1 b2 b3 u v sc ad ks W) (hm : Mp.Is Tryd.prog 9 E1 VB b2 ad' W1) (hg : W.grownBy W1 (some b2)) : CkAt w g b1 b2 b3 u v sc ad' ks W1 :=
 ⟨Mp.blk_grown hg h.Q (h.M2.ne h.Q), h.M1.block (hg.block _ h.M1.lt (by simpa using h.D12)), hm, h.M3.block (hg.block _ h.M3.lt (by simpa using h.D23.symm)), h.B.trans (Mp.grown_below hg h.N2 (below_size h.B)), h.N1, h.N2, h.N3, h.D12, h.D13, h.D23⟩
theorem CkAt.put3 (h : CkAt w g b1 b2 b3 u v sc ad ks W) (hm : Mp.Is Tryd.prog 60 E3 VB b3 ks' W1) (hg : W.grownBy W1 (some b3)) : CkAt w g b1 b2 b3 u v sc ad ks' W1 :=
 ⟨Mp.blk_grown hg h.Q (h.M3.ne h.Q), h.M1.block (hg.block _ h.M1.lt (by simpa using h.D13)), h.M2.block (hg.block _ h.M2.lt (by simpa using h.D23)), hm, h.B.trans (Mp.grown_below hg h.N3 (below_size h.B)), h.N1, h.N2, h.N3, h.D12, h.D13, h.D23⟩
end
set_option maxHeartbeats 16000000 in
set_option maxRecDepth 100000 in
theorem pg_calls (k : Nat) (w : World) (A0 : Option Addr) (c0 : Nat) (l0 : List ByteArray) (A1 : Option Addr) (c1 : Nat) (l1 : List S39) (hr0 : Kd.C Kd.string w A0 l0.length l0) (hc0 : l0.length ≤ c0) (hr1 : Kd.C k39 w A1 l1.length l1)
  (hlen : (l1.length : Int) ≤ 9223372036854775807) (g b1 b2 b3 : Nat) (sc : PgS) (ad : PgA) (ks : PgK) (i : Nat) (hi : i < l1.length) (r : Int) (ad' : PgA) (ks' : PgK) (W : World)
  (hck : CkAt w g b1 b2 b3 (.slice A0 l0.length c0) (.slice A1 l1.length c1) sc ad ks W) (h : pg k l0 l1 sc ad ks i = some (r, ad', ks')) :
  Calls Tryd.prog 12 #[.pointer (some ⟨g, 0, none⟩), .int .i64 i] W fun e W' => e = .returned (.int .i64 r) ∧ CkAt w g b1 b2 b3 (.slice A0 l0.length c0) (.slice A1 l1.length c1) sc ad' ks' W' := by
 have HR0 := Aside0.mk hr0
 have HC0 := Aside0.mk hc0
 have HR1 := Aside0.mk hr1
 have HP := Aside0.mk hck
 clear hr0 hr1 hck hc0
 have hu25 := Tryd.underlying25
 have hu37 := Tryd.underlying37
 have hu39 := Tryd.underlying39
 have hu48 := Tryd.underlying48
 obtain ⟨ad1, A9, c9, A10, c10, A12, c12, rfl, x0, x1, x2, x3, x4, x5, x6, x7, x8, x9, x10, x11, x12, hl9, hk9, hl10, hk10, hl12, hk12⟩ := at_T39 HR1.out i (by omega) (by omega)
 rw [Int.toNat_natCast] at x0 x1 x2 x3 x4 x5 x6 x7 x8 x9 x10 x11 x12
 replace x0 := (HP.out.B.cell (World.block_lt_of_cell? w _ x0)).trans x0
 replace x1 := (HP.out.B.cell (World.block_lt_of_cell? w _ x1)).trans x1
 replace x2 := (HP.out.B.cell (World.block_lt_of_cell? w _ x2)).trans x2
 replace x3 := (HP.out.B.cell (World.block_lt_of_cell? w _ x3)).trans x3
 replace x4 := (HP.out.B.cell (World.block_lt_of_cell? w _ x4)).trans x4
 replace x5 := (HP.out.B.cell (World.block_lt_of_cell? w _ x5)).trans x5
 replace x6 := (HP.out.B.cell (World.block_lt_of_cell? w _ x6)).trans x6
 replace x7 := (HP.out.B.cell (World.block_lt_of_cell? w _ x7)).trans x7
 replace x8 := (HP.out.B.cell (World.block_lt_of_cell? w _ x8)).trans x8
 replace x9 := (HP.out.B.cell (World.block_lt_of_cell? w _ x9)).trans x9
 replace x10 := (HP.out.B.cell (World.block_lt_of_cell? w _ x10)).trans x10
 replace x11 := (HP.out.B.cell (World.block_lt_of_cell? w _ x11)).trans x11
 replace x12 := (HP.out.B.cell (World.block_lt_of_cell? w _ x12)).trans x12
 unfold pg at h
 generalize hx : rd_T39 l1 i = x at *
 have HX := Aside0.mk hx
 have HL9 := Aside0.mk hl9
 have HK9 := Aside0.mk hk9
 have HL10 := Aside0.mk hl10
 have HK10 := Aside0.mk hk10
 have HL12 := Aside0.mk hl12
 have HK12 := Aside0.mk hk12
 clear hx hl9 hk9 hl10 hk10 hl12 hk12
 split at h
 case isFalse => cases h
 rename_i hz
 have HZ := Aside0.mk hz
 clear hz
 obtain ⟨n, hn, h⟩ := Option.bind_eq_some_iff.1 h
 have HN := Aside0.mk hn
 have H := Aside0.mk h
 clear hn h
 have hi' : (i : Int) < (l1.length : Int) := by omega
 have y0 : W.cell? ⟨g, 0, none⟩ = some (.slice A0 l0.length c0) := blk_cell HP.out.Q 0
 have y1 : W.cell? ⟨g, 1, none⟩ = some (.slice (some ad1) l1.length c1) := blk_cell HP.out.Q 1
 go_enter Tryd.func12, Tryd.ntmps12
 go_upto_region 2 with (fail)
 have n1 := Aside0.mk (HP.out.alloc (.cells #[.string x.f0, .string x.f1, .string x.f2, .string x.f3, .int .i64 x.f4, .int .i64 x.f5.f0, .bool x.f5.f1, .int .i64 x.f5.f2, .string x.f5.f3, .slice A9 x.f5.f4.length c9, .slice A10 x.f5.f5.length c10, .string x.f6, .slice A12 x.f7.length c12] 39))
 have BX := Aside0.mk (blk_new W (.cells #[.string x.f0, .string x.f1, .string x.f2, .string x.f3, .int .i64 x.f4, .int .i64 x.f5.f0, .bool x.f5.f1, .int .i64 x.f5.f2, .string x.f5.f3, .slice A9 x.f5.f4.length c9, .slice A10 x.f5.f5.length c10, .string x.f6, .slice A12 x.f7.length c12] 39))
 clear HP y0 y1 x0 x1 x2 x3 x4 x5 x6 x7 x8 x9 x10 x11 x12
 have HP := n1
 clear n1
 generalize (W.alloc (.cells #[.string x.f0, .string x.f1, .string x.f2, .string x.f3, .int .i64 x.f4, .int .i64 x.f5.f0, .bool x.f5.f1, .int .i64 x.f5.f2, .string x.f5.f3, .slice A9 x.f5.f4.length c9, .slice A10 x.f5.f5.length c10, .string x.f6, .slice A12 x.f7.length c12] 39)) = W1 at HP BX ⊢
 generalize W.heap.size = gx at BX ⊢
 have y0 : W1.cell? ⟨g, 0, none⟩ = some (.slice A0 l0.length c0) := (blk_cell HP.out.Q 0).trans rfl
 have y1 : W1.cell? ⟨g, 1, none⟩ = some (.slice (some ad1) l1.length c1) := (blk_cell HP.out.Q 1).trans rfl
 have y2 : W1.cell? ⟨g, 2, none⟩ = some (.map (some b1)) := (blk_cell HP.out.Q 2).trans rfl
 have y3 : W1.cell? ⟨g, 3, none⟩ = some (.map (some b2)) := (blk_cell HP.out.Q 3).trans rfl
 have y4 : W1.cell? ⟨g, 4, none⟩ = some (.map (some b3)) := (blk_cell HP.out.Q 4).trans rfl
 have x0 : W1.cell? ⟨gx, 0, none⟩ = some (.string x.f0) := (blk_cell BX.out 0).trans rfl
 have x1 : W1.cell? ⟨gx, 1, none⟩ = some (.string x.f1) := (blk_cell BX.out 1).trans rfl
 have x2 : W1.cell? ⟨gx, 2, none⟩ = some (.string x.f2) := (blk_cell BX.out 2).trans rfl
 have x3 : W1.cell? ⟨gx, 3, none⟩ = some (.string x.f3) := (blk_cell BX.out 3).trans rfl
 have x4 : W1.cell? ⟨gx, 4, none⟩ = some (.int .i64 x.f4) := (blk_cell BX.out 4).trans rfl
 have x5 : W1.cell? ⟨gx, 5, none⟩ = some (.int .i64 x.f5.f0) := (blk_cell BX.out 5).trans rfl
 have x6 : W1.cell? ⟨gx, 6, none⟩ = some (.bool x.f5.f1) := (blk_cell BX.out 6).trans rfl
 have x7 : W1.cell? ⟨gx, 7, none⟩ = some (.int .i64 x.f5.f2) := (blk_cell BX.out 7).trans rfl
 have x8 : W1.cell? ⟨gx, 8, none⟩ = some (.string x.f5.f3) := (blk_cell BX.out 8).trans rfl
 have x9 : W1.cell? ⟨gx, 9, none⟩ = some (.slice A9 x.f5.f4.length c9) := (blk_cell BX.out 9).trans rfl
 have x10 : W1.cell? ⟨gx, 10, none⟩ = some (.slice A10 x.f5.f5.length c10) := (blk_cell BX.out 10).trans rfl
 have x11 : W1.cell? ⟨gx, 11, none⟩ = some (.string x.f6) := (blk_cell BX.out 11).trans rfl
 have x12 : W1.cell? ⟨gx, 12, none⟩ = some (.slice A12 x.f7.length c12) := (blk_cell BX.out 12).trans rfl
 go_quiet (first | (go_at_call 18; (with_reducible refine (tree_position.calls k A0 c0 l0 x.f2 n _ ?side1 HC0.out HN.out).mono ?_); (case side1 => exact Kd.C_below HR0.out (pw_below_drewN HP.out.B _)); rintro e w' ⟨rfl, ⟨nd, rfl⟩⟩; exact ⟨rfl, _, World.drewN_drewN _ _ _⟩))
 have n1 := Aside0.mk (HP.out.drewN nq)
 have n2 := Aside0.mk (show (W1.drewN nq).heap[gx]? = some (.cells #[.string x.f0, .string x.f1, .string x.f2, .string x.f3, .int .i64 x.f4, .int .i64 x.f5.f0, .bool x.f5.f1, .int .i64 x.f5.f2, .string x.f5.f3, .slice A9 x.f5.f4.length c9, .slice A10 x.f5.f5.length c10, .string x.f6, .slice A12 x.f7.length c12] 39 (0, 0)) from BX.out)
 clear y0 y1 y2 y3 y4 x0 x1 x2 x3 x4 x5 x6 x7 x8 x9 x10 x11 x12
 clear HP BX
 have HP := n1
 have BX := n2
 clear n1 n2
 generalize W1.drewN nq = W2 at HP BX ⊢
 have y0 : W2.cell? ⟨g, 0, none⟩ = some (.slice A0 l0.length c0) := (blk_cell HP.out.Q 0).trans rfl
 have y1 : W2.cell? ⟨g, 1, none⟩ = some (.slice (some ad1) l1.length c1) := (blk_cell HP.out.Q 1).trans rfl
 have y2 : W2.cell? ⟨g, 2, none⟩ = some (.map (some b1)) := (blk_cell HP.out.Q 2).trans rfl
 have y3 : W2.cell? ⟨g, 3, none⟩ = some (.map (some b2)) := (blk_cell HP.out.Q 3).trans rfl
 have y4 : W2.cell? ⟨g, 4, none⟩ = some (.map (some b3)) := (blk_cell HP.out.Q 4).trans rfl
 have x0 : W2.cell? ⟨gx, 0, none⟩ = some (.string x.f0) := (blk_cell BX.out 0).trans rfl
 have x1 : W2.cell? ⟨gx, 1, none⟩ = some (.string x.f1) := (blk_cell BX.out 1).trans rfl
 have x2 : W2.cell? ⟨gx, 2, none⟩ = some (.string x.f2) := (blk_cell BX.out 2).trans rfl
 have x3 : W2.cell? ⟨gx, 3, none⟩ = some (.string x.f3) := (blk_cell BX.out 3).trans rfl
 have x4 : W2.cell? ⟨gx, 4, none⟩ = some (.int .i64 x.f4) := (blk_cell BX.out 4).trans rfl
 have x5 : W2.cell? ⟨gx, 5, none⟩ = some (.int .i64 x.f5.f0) := (blk_cell BX.out 5).trans rfl
 have x6 : W2.cell? ⟨gx, 6, none⟩ = some (.bool x.f5.f1) := (blk_cell BX.out 6).trans rfl
 have x7 : W2.cell? ⟨gx, 7, none⟩ = some (.int .i64 x.f5.f2) := (blk_cell BX.out 7).trans rfl
 have x8 : W2.cell? ⟨gx, 8, none⟩ = some (.string x.f5.f3) := (blk_cell BX.out 8).trans rfl
 have x9 : W2.cell? ⟨gx, 9, none⟩ = some (.slice A9 x.f5.f4.length c9) := (blk_cell BX.out 9).trans rfl
 have x10 : W2.cell? ⟨gx, 10, none⟩ = some (.slice A10 x.f5.f5.length c10) := (blk_cell BX.out 10).trans rfl
 have x11 : W2.cell? ⟨gx, 11, none⟩ = some (.string x.f6) := (blk_cell BX.out 11).trans rfl
 have x12 : W2.cell? ⟨gx, 12, none⟩ = some (.slice A12 x.f7.length c12) := (blk_cell BX.out 12).trans rfl
 by_cases hneg : n < 0
 ·have H1 := H.out
  rw [if_pos hneg] at H1
  cases H1
  have e0 : decide (n < 0) = true := decide_eq_true hneg
  go_wp2_with fail
  go_ret
  exact ⟨rfl, HP.out⟩
 have H1 := H.out
 rw [if_neg hneg] at H1
 have e0 : decide (n < 0) = false := decide_eq_false hneg
 obtain ⟨t1, ht1, H2⟩ := Option.bind_eq_some_iff.1 H1
 have HT := Aside0.mk ht1
 have HC2 := Aside0.mk H2
 clear H H1 hneg ht1 H2
 go_upto_region 5 with (fail)
 go_cut [35] (fun v35 wc => ∃ b : Bool, v35 = .bool b ∧ Aside0 (pg_a1 k l0 l1 sc ad ks x i n b = some (r, ad', ks')) ∧ Aside0 (CkAt w g b1 b2 b3 (.slice A0 l0.length c0) (.slice (some ad1) l1.length c1) sc ad ks wc) ∧ Aside0 (wc.heap[gx]? = some (.cells #[.string x.f0, .string x.f1, .string x.f2, .string x.f3, .int .i64 x.f4, .int .i64 x.f5.f0, .bool x.f5.f1, .int .i64 x.f5.f2, .string x.f5.f3, .slice A9 x.f5.f4.length c9, .slice A10 x.f5.f5.length c10, .string x.f6, .slice A12 x.f7.length c12] 39 (0, 0))))
 case first => as_aux_lemma =>
  by_cases hk : x.f1.toList = []
  ·have e1 : (x.f1.toList == []) = true := beq_iff_eq.2 hk
   have e2 : (x.f1.toList != []) = false := bne_eq_false_iff_eq.2 hk
   have T1 := HT.out
   unfold pg_b1 at T1
   rw [if_pos hk] at T1
   cases T1
   clear hk
   go_wp2_with fail
   go_meet
   case rel => exact ⟨false, rfl, HC2, HP, BX⟩
  ·have e1 : (x.f1.toList == []) = false := beq_eq_false_iff_ne.2 hk
   have e2 : (x.f1.toList != []) = true := bne_iff_ne.2 hk
   have T1 := HT.out
   unfold pg_b1 at T1
   rw [if_neg hk] at T1
   obtain ⟨t2, ht2, T2⟩ := Option.bind_eq_some_iff.1 T1
   cases T2
   have HT2 := Aside0.mk ht2
   clear hk T1 ht2 HT
   go_wp2_with (go_at_call 16; refine (tree_isPath.calls k x.f1 t2 _ HT2.out).mono ?_; rintro e W3 ⟨rfl, hb⟩; have n1 := Aside0.mk (HP.out.below hb); have n2 := Aside0.mk (blk_below BX.out hb); clear HP BX hb; have HP := n1; have BX := n2; clear n1 n2)
   go_meet
   case rel => exact ⟨_, rfl, HC2, HP, BX⟩
 case rest => as_aux_lemma =>
  clear HP BX
  try clear HT HC2
  try clear y0 y1 y2 y3 y4 x0 x1 x2 x3 x4 x5 x6 x7 x8 x9 x10 x11 x12
  obtain ⟨b, rfl, HC, HP, BX⟩ := hcut
  have y0 : wc.cell? ⟨g, 0, none⟩ = some (.slice A0 l0.length c0) := (blk_cell HP.out.Q 0).trans rfl
  have y1 : wc.cell? ⟨g, 1, none⟩ = some (.slice (some ad1) l1.length c1) := (blk_cell HP.out.Q 1).trans rfl
  have y2 : wc.cell? ⟨g, 2, none⟩ = some (.map (some b1)) := (blk_cell HP.out.Q 2).trans rfl
  have y3 : wc.cell? ⟨g, 3, none⟩ = some (.map (some b2)) := (blk_cell HP.out.Q 3).trans rfl
  have y4 : wc.cell? ⟨g, 4, none⟩ = some (.map (some b3)) := (blk_cell HP.out.Q 4).trans rfl
  have x0 : wc.cell? ⟨gx, 0, none⟩ = some (.string x.f0) := (blk_cell BX.out 0).trans rfl
  have x1 : wc.cell? ⟨gx, 1, none⟩ = some (.string x.f1) := (blk_cell BX.out 1).trans rfl
  have x2 : wc.cell? ⟨gx, 2, none⟩ = some (.string x.f2) := (blk_cell BX.out 2).trans rfl
  have x3 : wc.cell? ⟨gx, 3, none⟩ = some (.string x.f3) := (blk_cell BX.out 3).trans rfl
  have x4 : wc.cell? ⟨gx, 4, none⟩ = some (.int .i64 x.f4) := (blk_cell BX.out 4).trans rfl
  have x5 : wc.cell? ⟨gx, 5, none⟩ = some (.int .i64 x.f5.f0) := (blk_cell BX.out 5).trans rfl
  have x6 : wc.cell? ⟨gx, 6, none⟩ = some (.bool x.f5.f1) := (blk_cell BX.out 6).trans rfl
  have x7 : wc.cell? ⟨gx, 7, none⟩ = some (.int .i64 x.f5.f2) := (blk_cell BX.out 7).trans rfl
  have x8 : wc.cell? ⟨gx, 8, none⟩ = some (.string x.f5.f3) := (blk_cell BX.out 8).trans rfl
  have x9 : wc.cell? ⟨gx, 9, none⟩ = some (.slice A9 x.f5.f4.length c9) := (blk_cell BX.out 9).trans rfl
  have x10 : wc.cell? ⟨gx, 10, none⟩ = some (.slice A10 x.f5.f5.length c10) := (blk_cell BX.out 10).trans rfl
  have x11 : wc.cell? ⟨gx, 11, none⟩ = some (.string x.f6) := (blk_cell BX.out 11).trans rfl
  have x12 : wc.cell? ⟨gx, 12, none⟩ = some (.slice A12 x.f7.length c12) := (blk_cell BX.out 12).trans rfl
  cases b
  case true =>
   have H1 := HC.out
   unfold pg_a1 at H1
   rw [if_pos rfl] at H1
   cases H1
   go_wp2_with fail
   go_ret
   exact ⟨rfl, HP.out⟩
  have H1 := HC.out
  clear HC
  unfold pg_a1 at H1
  rw [if_neg (by decide)] at H1
  obtain ⟨t3, ht3, H2⟩ := Option.bind_eq_some_iff.1 H1
  have HT := Aside0.mk ht3
  have HC2 := Aside0.mk H2
  clear H1 ht3 H2
  go_upto_region 7 with (fail)
  go_cut [45] (fun v45 wc => ∃ b : Bool, v45 = .bool b ∧ Aside0 (pg_a2 k l0 l1 sc ad ks x i n b = some (r, ad', ks')) ∧ Aside0 (CkAt w g b1 b2 b3 (.slice A0 l0.length c0) (.slice (some ad1) l1.length c1) sc ad ks wc) ∧ Aside0 (wc.heap[gx]? = some (.cells #[.string x.f0, .string x.f1, .string x.f2, .string x.f3, .int .i64 x.f4, .int .i64 x.f5.f0, .bool x.f5.f1, .int .i64 x.f5.f2, .string x.f5.f3, .slice A9 x.f5.f4.length c9, .slice A10 x.f5.f5.length c10, .string x.f6, .slice A12 x.f7.length c12] 39 (0, 0))))
  case first => as_aux_lemma =>
   have T1 := HT.out
   unfold pg_b2 at T1
   obtain ⟨t4, ht4, T2⟩ := Option.bind_eq_some_iff.1 T1
   have HT4 := Aside0.mk ht4
   clear T1 ht4 HT
   cases t4
   case false =>
    rw [if_neg (by decide)] at T2
    cases T2
    have n1 := Aside0.mk HP.out.drew
    have n2 := Aside0.mk (show (wc.drew).heap[gx]? = some (.cells #[.string x.f0, .string x.f1, .string x.f2, .string x.f3, .int .i64 x.f4, .int .i64 x.f5.f0, .bool x.f5.f1, .int .i64 x.f5.f2, .string x.f5.f3, .slice A9 x.f5.f4.length c9, .slice A10 x.f5.f5.length c10, .string x.f6, .slice A12 x.f7.length c12] 39 (0, 0)) from BX.out)
    clear y0 y1 y2 y3 y4 x0 x1 x2 x3 x4 x5 x6 x7 x8 x9 x10 x11 x12
    clear HP BX
    have HP := n1
    have BX := n2
    clear n1 n2
    refine start_ (n := 23) (S := fun w' => w'.cell? ⟨g, 0, none⟩ = some (.slice A0 l0.length c0) ∧ w'.cell? ⟨gx, 1, none⟩ = some (.string x.f1) ∧ w'.cell? ⟨gx, 2, none⟩ = some (.string x.f2) ∧ w'.cell? ⟨gx, 3, none⟩ = some (.string x.f3)) (ds := []) #[false, false, false, false, false, false, false, false, false, false, false, false, false, false, false, false, false, false, false, false, false, false, false] (by kernel_rfl) rfl rfl ⟨(blk_cell HP.out.Q 0), (blk_cell BX.out 1), (blk_cell BX.out 2), (blk_cell BX.out 3)⟩ (fun hHeld => ?_)
    generalize wc.drew = W3 at HP BX hHeld ⊢
    refine pure_ (i := 0) (N := some 46) (v := ?_) (a' := ?_) (ob 23 1) rfl rfl (by kernel_rfl) (fun _ _ _ h => h) (Or.inl ⟨by rfl, ?_⟩) ?_ ?_
    rotate_left
    ·intro w'
     go_simp
     with_reducible rfl
    rotate_left
    ·simp only [Act.put, List.setIfInBounds_toArray, List.set_cons_zero, List.set_cons_succ, i64_w, i32_w]
     rfl
    refine take_ (i := 1) (N := some 47) (v := ?_) (a' := ?_) (ob 23 3) rfl rfl (by kernel_rfl) (fun _ _ _ h => h) (Or.inl ⟨by rfl, ?_⟩) hHeld ?_ ?_
    rotate_left
    ·rintro w' ⟨s0, s1, s2, s3⟩
     go_simp
     with_reducible rfl
    rotate_left
    ·simp only [Act.put, List.setIfInBounds_toArray, List.set_cons_zero, List.set_cons_succ, i64_w, i32_w]
     rfl
    refine one_ (i := 2) (N := some 48) (ob 23 7) rfl rfl (by kernel_rfl) (by decide) (fun K hK => ?_)
    refine goes_ Tryd.func19 (by kernel_rfl) rfl #[.string x.f3] (by rfl) rfl rfl (by simp only [List.map_toArray, List.map_cons, List.map_nil]; rfl) ?_
    with_reducible refine (tree_isAddress.calls k x.f3 false _ HT4.out).mono ?_
    rintro e W5 ⟨rfl, hb⟩
    refine ⟨_, rfl, ?_⟩
    have n1 := Aside0.mk (HP.out.below hb)
    have n2 := Aside0.mk (blk_below BX.out hb)
    clear HP BX hb
    have HP := n1
    have BX := n2
    clear n1 n2
    refine hK.out _ _ ⟨(blk_cell HP.out.Q 0), (blk_cell BX.out 1), (blk_cell BX.out 2), (blk_cell BX.out 3)⟩ (fun hHeld => ?_)
    clear hK K
    refine norm_ (a' := ?_) ?_ ?_
    rotate_left
    ·show Act.put _ (some 48) _ = _
     simp only [Act.put, List.setIfInBounds_toArray, List.set_cons_zero, List.set_cons_succ, i64_w, i32_w]
     rfl
    refine pure_ (i := 3) (N := some 49) (v := ?_) (a' := ?_) (ob 23 15) rfl rfl (by kernel_rfl) (fun _ _ _ h => h) (Or.inl ⟨by rfl, ?_⟩) ?_ ?_
    rotate_left
    ·intro w'
     go_simp
     with_reducible rfl
    rotate_left
    ·simp only [Act.put, List.setIfInBounds_toArray, List.set_cons_zero, List.set_cons_succ, i64_w, i32_w]
     rfl
    refine pure_ (i := 4) (N := some 50) (v := ?_) (a' := ?_) (ob 23 31) rfl rfl (by kernel_rfl) (fun _ _ _ h => h) (Or.inl ⟨by rfl, ?_⟩) ?_ ?_
    rotate_left
    ·intro w'
     go_simp
     with_reducible rfl
    rotate_left
    ·simp only [Act.put, List.setIfInBounds_toArray, List.set_cons_zero, List.set_cons_succ, i64_w, i32_w]
     rfl
    refine pure_ (i := 5) (N := some 51) (v := undef) (a' := ?_) (ob 23 63) rfl rfl (by kernel_rfl) (fun _ _ _ h => h) (Or.inr ⟨by rfl, rfl⟩) ?_ ?_
    rotate_left
    ·simp only [Act.put, List.setIfInBounds_toArray, List.set_cons_zero, List.set_cons_succ, i64_w, i32_w]
     rfl
    refine pure_ (i := 6) (N := some 52) (v := undef) (a' := ?_) (ob 23 127) rfl rfl (by kernel_rfl) (fun _ _ _ h => h) (Or.inr ⟨by rfl, rfl⟩) ?_ ?_
    rotate_left
    ·simp only [Act.put, List.setIfInBounds_toArray, List.set_cons_zero, List.set_cons_succ, i64_w, i32_w]
     rfl
    refine pure_ (i := 7) (N := some 53) (v := undef) (a' := ?_) (ob 23 255) rfl rfl (by kernel_rfl) (fun _ _ _ h => h) (Or.inr ⟨by rfl, rfl⟩) ?_ ?_
    rotate_left
    ·simp only [Act.put, List.setIfInBounds_toArray, List.set_cons_zero, List.set_cons_succ, i64_w, i32_w]
     rfl
    refine pure_ (i := 8) (N := some 54) (v := undef) (a' := ?_) (ob 23 511) rfl rfl (by kernel_rfl) (fun _ _ _ h => h) (Or.inr ⟨by rfl, rfl⟩) ?_ ?_
    rotate_left
    ·simp only [Act.put, List.setIfInBounds_toArray, List.set_cons_zero, List.set_cons_succ, i64_w, i32_w]
     rfl
    refine pure_ (i := 9) (N := some 55) (v := undef) (a' := ?_) (ob 23 1023) rfl rfl (by kernel_rfl) (fun _ _ _ h => h) (Or.inr ⟨by rfl, rfl⟩) ?_ ?_
    rotate_left
    ·simp only [Act.put, List.setIfInBounds_toArray, List.set_cons_zero, List.set_cons_succ, i64_w, i32_w]
     rfl
    refine pure_ (i := 10) (N := some 56) (v := undef) (a' := ?_) (ob 23 2047) rfl rfl (by kernel_rfl) (fun _ _ _ h => h) (Or.inr ⟨by rfl, rfl⟩) ?_ ?_
    rotate_left
    ·simp only [Act.put, List.setIfInBounds_toArray, List.set_cons_zero, List.set_cons_succ, i64_w, i32_w]
     rfl
    refine pure_ (i := 11) (N := some 57) (v := undef) (a' := ?_) (ob 23 4095) rfl rfl (by kernel_rfl) (fun _ _ _ h => h) (Or.inr ⟨by rfl, rfl⟩) ?_ ?_
    rotate_left
    ·simp only [Act.put, List.setIfInBounds_toArray, List.set_cons_zero, List.set_cons_succ, i64_w, i32_w]
     rfl
    refine pure_ (i := 12) (N := some 58) (v := undef) (a' := ?_) (ob 23 8191) rfl rfl (by kernel_rfl) (fun _ _ _ h => h) (Or.inr ⟨by rfl, rfl⟩) ?_ ?_
    rotate_left
    ·simp only [Act.put, List.setIfInBounds_toArray, List.set_cons_zero, List.set_cons_succ, i64_w, i32_w]
     rfl
    refine pure_ (i := 13) (N := some 59) (v := undef) (a' := ?_) (ob 23 16383) rfl rfl (by kernel_rfl) (fun _ _ _ h => h) (Or.inr ⟨by rfl, rfl⟩) ?_ ?_
    rotate_left
    ·simp only [Act.put, List.setIfInBounds_toArray, List.set_cons_zero, List.set_cons_succ, i64_w, i32_w]
     rfl
    refine pure_ (i := 14) (N := some 60) (v := undef) (a' := ?_) (ob 23 32767) rfl rfl (by kernel_rfl) (fun _ _ _ h => h) (Or.inr ⟨by rfl, rfl⟩) ?_ ?_
    rotate_left
    ·simp only [Act.put, List.setIfInBounds_toArray, List.set_cons_zero, List.set_cons_succ, i64_w, i32_w]
     rfl
    refine pure_ (i := 15) (N := some 61) (v := undef) (a' := ?_) (ob 23 65535) rfl rfl (by kernel_rfl) (fun _ _ _ h => h) (Or.inr ⟨by rfl, rfl⟩) ?_ ?_
    rotate_left
    ·simp only [Act.put, List.setIfInBounds_toArray, List.set_cons_zero, List.set_cons_succ, i64_w, i32_w]
     rfl
    refine pure_ (i := 16) (N := some 62) (v := undef) (a' := ?_) (ob 23 131071) rfl rfl (by kernel_rfl) (fun _ _ _ h => h) (Or.inr ⟨by rfl, rfl⟩) ?_ ?_
    rotate_left
    ·simp only [Act.put, List.setIfInBounds_toArray, List.set_cons_zero, List.set_cons_succ, i64_w, i32_w]
     rfl
    refine pure_ (i := 17) (N := some 63) (v := undef) (a' := ?_) (ob 23 262143) rfl rfl (by kernel_rfl) (fun _ _ _ h => h) (Or.inr ⟨by rfl, rfl⟩) ?_ ?_
    rotate_left
    ·simp only [Act.put, List.setIfInBounds_toArray, List.set_cons_zero, List.set_cons_succ, i64_w, i32_w]
     rfl
    refine pure_ (i := 18) (N := some 64) (v := undef) (a' := ?_) (ob 23 524287) rfl rfl (by kernel_rfl) (fun _ _ _ h => h) (Or.inr ⟨by rfl, rfl⟩) ?_ ?_
    rotate_left
    ·simp only [Act.put, List.setIfInBounds_toArray, List.set_cons_zero, List.set_cons_succ, i64_w, i32_w]
     rfl
    refine pure_ (i := 19) (N := some 65) (v := undef) (a' := ?_) (ob 23 1048575) rfl rfl (by kernel_rfl) (fun _ _ _ h => h) (Or.inr ⟨by rfl, rfl⟩) ?_ ?_
    rotate_left
    ·simp only [Act.put, List.setIfInBounds_toArray, List.set_cons_zero, List.set_cons_succ, i64_w, i32_w]
     rfl
    refine pure_ (i := 20) (N := some 66) (v := undef) (a' := ?_) (ob 23 2097151) rfl rfl (by kernel_rfl) (fun _ _ _ h => h) (Or.inr ⟨by rfl, rfl⟩) ?_ ?_
    rotate_left
    ·simp only [Act.put, List.setIfInBounds_toArray, List.set_cons_zero, List.set_cons_succ, i64_w, i32_w]
     rfl
    refine pure_ (i := 21) (N := some 67) (v := ?_) (a' := ?_) (ob 23 4194303) rfl rfl (by kernel_rfl) (fun _ _ _ h => h) (Or.inl ⟨by rfl, ?_⟩) ?_ ?_
    rotate_left
    ·intro w'
     go_simp
     with_reducible rfl
    rotate_left
    ·simp only [Act.put, List.setIfInBounds_toArray, List.set_cons_zero, List.set_cons_succ, i64_w, i32_w]
     rfl
    refine pure_ (i := 22) (N := some 45) (v := ?_) (a' := ?_) (ob 23 8388607) rfl rfl (by kernel_rfl) (fun _ _ _ h => h) (Or.inl ⟨by rfl, ?_⟩) ?_ ?_
    rotate_left
    ·intro w'
     go_simp
     with_reducible rfl
    rotate_left
    ·simp only [Act.put, List.setIfInBounds_toArray, List.set_cons_zero, List.set_cons_succ, i64_w, i32_w]
     rfl
    refine done_ (by kernel_rfl) ?_
    go_wp2_with fail
    go_meet
    case rel => exact ⟨true, rfl, HC2, HP, BX⟩
   case true =>
    rw [if_pos rfl] at T2
    by_cases hk : x.f1.toList = []
    ·have e1 : (x.f1.toList == []) = true := beq_iff_eq.2 hk
     have e2 : (x.f1.toList != []) = false := bne_eq_false_iff_eq.2 hk
     rw [if_pos hk] at T2
     obtain ⟨t5, ht5, T3⟩ := Option.bind_eq_some_iff.1 T2
     cases T3
     have HT5 := Aside0.mk ht5
     clear T2 ht5 hk
     have n1 := Aside0.mk HP.out.drew
     have n2 := Aside0.mk (show (wc.drew).heap[gx]? = some (.cells #[.string x.f0, .string x.f1, .string x.f2, .string x.f3, .int .i64 x.f4, .int .i64 x.f5.f0, .bool x.f5.f1, .int .i64 x.f5.f2, .string x.f5.f3, .slice A9 x.f5.f4.length c9, .slice A10 x.f5.f5.length c10, .string x.f6, .slice A12 x.f7.length c12] 39 (0, 0)) from BX.out)
     clear y0 y1 y2 y3 y4 x0 x1 x2 x3 x4 x5 x6 x7 x8 x9 x10 x11 x12
     clear HP BX
     have HP := n1
     have BX := n2
     clear n1 n2
     refine start_ (n := 23) (S := fun w' => w'.cell? ⟨g, 0, none⟩ = some (.slice A0 l0.length c0) ∧ w'.cell? ⟨gx, 1, none⟩ = some (.string x.f1) ∧ w'.cell? ⟨gx, 2, none⟩ = some (.string x.f2) ∧ w'.cell? ⟨gx, 3, none⟩ = some (.string x.f3)) (ds := []) #[false, false, false, false, false, false, false, false, false, false, false, false, false, false, false, false, false, false, false, false, false, false, false] (by kernel_rfl) rfl rfl ⟨(blk_cell HP.out.Q 0), (blk_cell BX.out 1), (blk_cell BX.out 2), (blk_cell BX.out 3)⟩ (fun hHeld => ?_)
     generalize wc.drew = W3 at HP BX hHeld ⊢
     refine pure_ (i := 0) (N := some 46) (v := ?_) (a' := ?_) (ob 23 1) rfl rfl (by kernel_rfl) (fun _ _ _ h => h) (Or.inl ⟨by rfl, ?_⟩) ?_ ?_
     rotate_left
     ·intro w'
      go_simp
      with_reducible rfl
     rotate_left
     ·simp only [Act.put, List.setIfInBounds_toArray, List.set_cons_zero, List.set_cons_succ, i64_w, i32_w]
      rfl
     refine take_ (i := 1) (N := some 47) (v := ?_) (a' := ?_) (ob 23 3) rfl rfl (by kernel_rfl) (fun _ _ _ h => h) (Or.inl ⟨by rfl, ?_⟩) hHeld ?_ ?_
     rotate_left
     ·rintro w' ⟨s0, s1, s2, s3⟩
      go_simp
      with_reducible rfl
     rotate_left
     ·simp only [Act.put, List.setIfInBounds_toArray, List.set_cons_zero, List.set_cons_succ, i64_w, i32_w]
      rfl
     refine one_ (i := 2) (N := some 48) (ob 23 7) rfl rfl (by kernel_rfl) (by decide) (fun K hK => ?_)
     refine goes_ Tryd.func19 (by kernel_rfl) rfl #[.string x.f3] (by rfl) rfl rfl (by simp only [List.map_toArray, List.map_cons, List.map_nil]; rfl) ?_
     with_reducible refine (tree_isAddress.calls k x.f3 true _ HT4.out).mono ?_
     rintro e W5 ⟨rfl, hb⟩
     refine ⟨_, rfl, ?_⟩
     have n1 := Aside0.mk (HP.out.below hb)
     have n2 := Aside0.mk (blk_below BX.out hb)
     clear HP BX hb
     have HP := n1
     have BX := n2
     clear n1 n2
     refine hK.out _ _ ⟨(blk_cell HP.out.Q 0), (blk_cell BX.out 1), (blk_cell BX.out 2), (blk_cell BX.out 3)⟩ (fun hHeld => ?_)
     clear hK K
     refine norm_ (a' := ?_) ?_ ?_
     rotate_left
     ·show Act.put _ (some 48) _ = _
      simp only [Act.put, List.setIfInBounds_toArray, List.set_cons_zero, List.set_cons_succ, i64_w, i32_w]
      rfl
     refine pure_ (i := 3) (N := some 49) (v := ?_) (a' := ?_) (ob 23 15) rfl rfl (by kernel_rfl) (fun _ _ _ h => h) (Or.inl ⟨by rfl, ?_⟩) ?_ ?_
     rotate_left
     ·intro w'
      go_simp
      with_reducible rfl
     rotate_left
     ·simp only [Act.put, List.setIfInBounds_toArray, List.set_cons_zero, List.set_cons_succ, i64_w, i32_w]
      rfl
     refine pure_ (i := 4) (N := some 50) (v := ?_) (a' := ?_) (ob 23 31) rfl rfl (by kernel_rfl) (fun _ _ _ h => h) (Or.inl ⟨by rfl, ?_⟩) ?_ ?_
     rotate_left
     ·intro w'
      go_simp
      with_reducible rfl
     rotate_left
     ·simp only [Act.put, List.setIfInBounds_toArray, List.set_cons_zero, List.set_cons_succ, i64_w, i32_w]
      rfl
     refine pure_ (i := 5) (N := some 51) (v := ?_) (a' := ?_) (ob 23 63) rfl rfl (by kernel_rfl) (fun _ _ _ h => h) (Or.inl ⟨by rfl, ?_⟩) ?_ ?_
     rotate_left
     ·intro w'
      go_simp
      with_reducible rfl
     rotate_left
     ·simp only [Act.put, List.setIfInBounds_toArray, List.set_cons_zero, List.set_cons_succ, i64_w, i32_w]
      rfl
     refine take_ (i := 6) (N := some 52) (v := ?_) (a' := ?_) (ob 23 127) rfl rfl (by kernel_rfl) (fun _ _ _ h => h) (Or.inl ⟨by rfl, ?_⟩) hHeld ?_ ?_
     rotate_left
     ·rintro w' ⟨s0, s1, s2, s3⟩
      go_simp
      with_reducible rfl
     rotate_left
     ·simp only [Act.put, List.setIfInBounds_toArray, List.set_cons_zero, List.set_cons_succ, i64_w, i32_w]
      rfl
     refine pure_ (i := 7) (N := some 53) (v := ?_) (a' := ?_) (ob 23 255) rfl rfl (by kernel_rfl) (fun _ _ _ h => h) (Or.inl ⟨by rfl, ?_⟩) ?_ ?_
     rotate_left
     ·intro w'
      go_simp
      with_reducible rfl
     rotate_left
     ·simp only [Act.put, List.setIfInBounds_toArray, List.set_cons_zero, List.set_cons_succ, i64_w, i32_w]
      rfl
     refine pure_ (i := 8) (N := some 54) (v := ?_) (a' := ?_) (ob 23 511) rfl rfl (by kernel_rfl) (fun _ _ _ h => h) (Or.inl ⟨by rfl, ?_⟩) ?_ ?_
     rotate_left
     ·intro w'
      go_simp
      with_reducible rfl
     rotate_left
     ·simp only [Act.put, List.setIfInBounds_toArray, List.set_cons_zero, List.set_cons_succ, i64_w, i32_w]
      rfl
     refine pure_ (i := 9) (N := some 55) (v := ?_) (a' := ?_) (ob 23 1023) rfl rfl (by kernel_rfl) (fun _ _ _ h => h) (Or.inl ⟨by rfl, ?_⟩) ?_ ?_
     rotate_left
     ·intro w'
      go_simp
      with_reducible rfl
     rotate_left
     ·simp only [Act.put, List.setIfInBounds_toArray, List.set_cons_zero, List.set_cons_succ, i64_w, i32_w]
      rfl
     refine pure_ (i := 11) (N := some 57) (v := ?_) (a' := ?_) (ob 23 3071) rfl rfl (by kernel_rfl) (fun _ _ _ h => h) (Or.inl ⟨by rfl, ?_⟩) ?_ ?_
     rotate_left
     ·intro w'
      go_simp
      with_reducible rfl
     rotate_left
     ·simp only [Act.put, List.setIfInBounds_toArray, List.set_cons_zero, List.set_cons_succ, i64_w, i32_w]
      rfl
     refine pure_ (i := 12) (N := some 58) (v := ?_) (a' := ?_) (ob 23 7167) rfl rfl (by kernel_rfl) (fun _ _ _ h => h) (Or.inl ⟨by rfl, ?_⟩) ?_ ?_
     rotate_left
     ·intro w'
      go_simp
      with_reducible rfl
     rotate_left
     ·simp only [Act.put, List.setIfInBounds_toArray, List.set_cons_zero, List.set_cons_succ, i64_w, i32_w]
      rfl
     refine pure_ (i := 13) (N := some 59) (v := ?_) (a' := ?_) (ob 23 15359) rfl rfl (by kernel_rfl) (fun _ _ _ h => h) (Or.inl ⟨by rfl, ?_⟩) ?_ ?_
     rotate_left
     ·intro w'
      go_simp
      with_reducible rfl
     rotate_left
     ·simp only [Act.put, List.setIfInBounds_toArray, List.set_cons_zero, List.set_cons_succ, i64_w, i32_w]
      rfl
     refine pure_ (i := 14) (N := some 60) (v := ?_) (a' := ?_) (ob 23 31743) rfl rfl (by kernel_rfl) (fun _ _ _ h => h) (Or.inl ⟨by rfl, ?_⟩) ?_ ?_
     rotate_left
     ·intro w'
      go_simp
      with_reducible rfl
     rotate_left
     ·simp only [Act.put, List.setIfInBounds_toArray, List.set_cons_zero, List.set_cons_succ, i64_w, i32_w]
      rfl
     refine pure_ (i := 16) (N := some 62) (v := ?_) (a' := ?_) (ob 23 97279) rfl rfl (by kernel_rfl) (fun _ _ _ h => h) (Or.inl ⟨by rfl, ?_⟩) ?_ ?_
     rotate_left
     ·intro w'
      go_simp
      with_reducible rfl
     rotate_left
     ·simp only [Act.put, List.setIfInBounds_toArray, List.set_cons_zero, List.set_cons_succ, i64_w, i32_w]
      rfl
     refine take_ (i := 10) (N := some 56) (v := ?_) (a' := ?_) (ob 23 98303) rfl rfl (by kernel_rfl) (fun _ _ _ h => h) (Or.inl ⟨by rfl, ?_⟩) hHeld ?_ ?_
     rotate_left
     ·rintro w' ⟨s0, s1, s2, s3⟩
      go_simp
      with_reducible rfl
     rotate_left
     ·simp only [Act.put, List.setIfInBounds_toArray, List.set_cons_zero, List.set_cons_succ, i64_w, i32_w]
      rfl
     refine take_ (i := 15) (N := some 61) (v := ?_) (a' := ?_) (ob 23 131071) rfl rfl (by kernel_rfl) (fun _ _ _ h => h) (Or.inl ⟨by rfl, ?_⟩) hHeld ?_ ?_
     rotate_left
     ·rintro w' ⟨s0, s1, s2, s3⟩
      go_simp
      with_reducible rfl
     rotate_left
     ·simp only [Act.put, List.setIfInBounds_toArray, List.set_cons_zero, List.set_cons_succ, i64_w, i32_w]
      rfl
     refine take_ (i := 17) (N := some 63) (v := ?_) (a' := ?_) (ob 23 262143) rfl rfl (by kernel_rfl) (fun _ _ _ h => h) (Or.inl ⟨by rfl, ?_⟩) hHeld ?_ ?_
     rotate_left
     ·rintro w' ⟨s0, s1, s2, s3⟩
      go_simp
      with_reducible rfl
     rotate_left
     ·simp only [Act.put, List.setIfInBounds_toArray, List.set_cons_zero, List.set_cons_succ, i64_w, i32_w]
      rfl
     refine one_ (i := 18) (N := some 64) (ob 23 524287) rfl rfl (by kernel_rfl) (by decide) (fun K hK => ?_)
     refine goes_ Tryd.func20 (by kernel_rfl) rfl #[.slice A0 l0.length c0, .string x.f2] (by rfl) rfl rfl (by simp only [List.map_toArray, List.map_cons, List.map_nil]; rfl) ?_
     with_reducible refine (tree_rootOf.calls A0 c0 l0 x.f2 t5 _ ?side1 HC0.out HT5.out).mono ?_
     (case side1 => exact Kd.C_below HR0.out HP.out.B)
     rintro e W6 ⟨rfl, ⟨nd, rfl⟩⟩
     refine ⟨_, rfl, ?_⟩
     have n1 := Aside0.mk (HP.out.drewN nd)
     have n2 := Aside0.mk (show (W5.drewN nd).heap[gx]? = some (.cells #[.string x.f0, .string x.f1, .string x.f2, .string x.f3, .int .i64 x.f4, .int .i64 x.f5.f0, .bool x.f5.f1, .int .i64 x.f5.f2, .string x.f5.f3, .slice A9 x.f5.f4.length c9, .slice A10 x.f5.f5.length c10, .string x.f6, .slice A12 x.f7.length c12] 39 (0, 0)) from BX.out)
     clear HP BX
     have HP := n1
     have BX := n2
     clear n1 n2
     generalize W5.drewN nd = W6 at HP BX ⊢
     refine hK.out _ _ ⟨(blk_cell HP.out.Q 0), (blk_cell BX.out 1), (blk_cell BX.out 2), (blk_cell BX.out 3)⟩ (fun hHeld => ?_)
     clear hK K
     refine norm_ (a' := ?_) ?_ ?_
     rotate_left
     ·show Act.put _ (some 64) _ = _
      simp only [Act.put, List.setIfInBounds_toArray, List.set_cons_zero, List.set_cons_succ, i64_w, i32_w]
      rfl
     refine pure_ (i := 19) (N := some 65) (v := ?_) (a' := ?_) (ob 23 1048575) rfl rfl (by kernel_rfl) (fun _ _ _ h => h) (Or.inl ⟨by rfl, ?_⟩) ?_ ?_
     rotate_left
     ·intro w'
      go_simp
      with_reducible rfl
     rotate_left
     ·simp only [Act.put, List.setIfInBounds_toArray, List.set_cons_zero, List.set_cons_succ, i64_w, i32_w]
      rfl
     refine pure_ (i := 20) (N := some 66) (v := ?_) (a' := ?_) (ob 23 2097151) rfl rfl (by kernel_rfl) (fun _ _ _ h => h) (Or.inl ⟨by rfl, ?_⟩) ?_ ?_
     rotate_left
     ·intro w'
      go_simp
      with_reducible rfl
     rotate_left
     ·simp only [Act.put, List.setIfInBounds_toArray, List.set_cons_zero, List.set_cons_succ, i64_w, i32_w]
      rfl
     refine pure_ (i := 21) (N := some 67) (v := ?_) (a' := ?_) (ob 23 4194303) rfl rfl (by kernel_rfl) (fun _ _ _ h => h) (Or.inl ⟨by rfl, ?_⟩) ?_ ?_
     rotate_left
     ·intro w'
      go_simp
      with_reducible rfl
     rotate_left
     ·simp only [Act.put, List.setIfInBounds_toArray, List.set_cons_zero, List.set_cons_succ, i64_w, i32_w]
      rfl
     refine pure_ (i := 22) (N := some 45) (v := ?_) (a' := ?_) (ob 23 8388607) rfl rfl (by kernel_rfl) (fun _ _ _ h => h) (Or.inl ⟨by rfl, ?_⟩) ?_ ?_
     rotate_left
     ·intro w'
      go_simp
      with_reducible rfl
     rotate_left
     ·simp only [Act.put, List.setIfInBounds_toArray, List.set_cons_zero, List.set_cons_succ, i64_w, i32_w]
      rfl
     refine done_ (by kernel_rfl) ?_
     go_wp2_with fail
     go_meet
     case rel => exact ⟨_, rfl, HC2, HP, BX⟩
    ·have e1 : (x.f1.toList == []) = false := beq_eq_false_iff_ne.2 hk
     have e2 : (x.f1.toList != []) = true := bne_iff_ne.2 hk
     rw [if_neg hk] at T2
     cases T2
     clear hk
     have n1 := Aside0.mk HP.out.drew
     have n2 := Aside0.mk (show (wc.drew).heap[gx]? = some (.cells #[.string x.f0, .string x.f1, .string x.f2, .string x.f3, .int .i64 x.f4, .int .i64 x.f5.f0, .bool x.f5.f1, .int .i64 x.f5.f2, .string x.f5.f3, .slice A9 x.f5.f4.length c9, .slice A10 x.f5.f5.length c10, .string x.f6, .slice A12 x.f7.length c12] 39 (0, 0)) from BX.out)
     clear y0 y1 y2 y3 y4 x0 x1 x2 x3 x4 x5 x6 x7 x8 x9 x10 x11 x12
     clear HP BX
     have HP := n1
     have BX := n2
     clear n1 n2
     refine start_ (n := 23) (S := fun w' => w'.cell? ⟨g, 0, none⟩ = some (.slice A0 l0.length c0) ∧ w'.cell? ⟨gx, 1, none⟩ = some (.string x.f1) ∧ w'.cell? ⟨gx, 2, none⟩ = some (.string x.f2) ∧ w'.cell? ⟨gx, 3, none⟩ = some (.string x.f3)) (ds := []) #[false, false, false, false, false, false, false, false, false, false, false, false, false, false, false, false, false, false, false, false, false, false, false] (by kernel_rfl) rfl rfl ⟨(blk_cell HP.out.Q 0), (blk_cell BX.out 1), (blk_cell BX.out 2), (blk_cell BX.out 3)⟩ (fun hHeld => ?_)
     generalize wc.drew = W3 at HP BX hHeld ⊢
     refine pure_ (i := 0) (N := some 46) (v := ?_) (a' := ?_) (ob 23 1) rfl rfl (by kernel_rfl) (fun _ _ _ h => h) (Or.inl ⟨by rfl, ?_⟩) ?_ ?_
     rotate_left
     ·intro w'
      go_simp
      with_reducible rfl
     rotate_left
     ·simp only [Act.put, List.setIfInBounds_toArray, List.set_cons_zero, List.set_cons_succ, i64_w, i32_w]
      rfl
     refine take_ (i := 1) (N := some 47) (v := ?_) (a' := ?_) (ob 23 3) rfl rfl (by kernel_rfl) (fun _ _ _ h => h) (Or.inl ⟨by rfl, ?_⟩) hHeld ?_ ?_
     rotate_left
     ·rintro w' ⟨s0, s1, s2, s3⟩
      go_simp
      with_reducible rfl
     rotate_left
     ·simp only [Act.put, List.setIfInBounds_toArray, List.set_cons_zero, List.set_cons_succ, i64_w, i32_w]
      rfl
     refine one_ (i := 2) (N := some 48) (ob 23 7) rfl rfl (by kernel_rfl) (by decide) (fun K hK => ?_)
     refine goes_ Tryd.func19 (by kernel_rfl) rfl #[.string x.f3] (by rfl) rfl rfl (by simp only [List.map_toArray, List.map_cons, List.map_nil]; rfl) ?_
     with_reducible refine (tree_isAddress.calls k x.f3 true _ HT4.out).mono ?_
     rintro e W5 ⟨rfl, hb⟩
     refine ⟨_, rfl, ?_⟩
     have n1 := Aside0.mk (HP.out.below hb)
     have n2 := Aside0.mk (blk_below BX.out hb)
     clear HP BX hb
     have HP := n1
     have BX := n2
     clear n1 n2
     refine hK.out _ _ ⟨(blk_cell HP.out.Q 0), (blk_cell BX.out 1), (blk_cell BX.out 2), (blk_cell BX.out 3)⟩ (fun hHeld => ?_)
     clear hK K
     refine norm_ (a' := ?_) ?_ ?_
     rotate_left
     ·show Act.put _ (some 48) _ = _
      simp only [Act.put, List.setIfInBounds_toArray, List.set_cons_zero, List.set_cons_succ, i64_w, i32_w]
      rfl
     refine pure_ (i := 3) (N := some 49) (v := ?_) (a' := ?_) (ob 23 15) rfl rfl (by kernel_rfl) (fun _ _ _ h => h) (Or.inl ⟨by rfl, ?_⟩) ?_ ?_
     rotate_left
     ·intro w'
      go_simp
      with_reducible rfl
     rotate_left
     ·simp only [Act.put, List.setIfInBounds_toArray, List.set_cons_zero, List.set_cons_succ, i64_w, i32_w]
      rfl
     refine pure_ (i := 4) (N := some 50) (v := ?_) (a' := ?_) (ob 23 31) rfl rfl (by kernel_rfl) (fun _ _ _ h => h) (Or.inl ⟨by rfl, ?_⟩) ?_ ?_
     rotate_left
     ·intro w'
      go_simp
      with_reducible rfl
     rotate_left
     ·simp only [Act.put, List.setIfInBounds_toArray, List.set_cons_zero, List.set_cons_succ, i64_w, i32_w]
      rfl
     refine pure_ (i := 5) (N := some 51) (v := ?_) (a' := ?_) (ob 23 63) rfl rfl (by kernel_rfl) (fun _ _ _ h => h) (Or.inl ⟨by rfl, ?_⟩) ?_ ?_
     rotate_left
     ·intro w'
      go_simp
      with_reducible rfl
     rotate_left
     ·simp only [Act.put, List.setIfInBounds_toArray, List.set_cons_zero, List.set_cons_succ, i64_w, i32_w]
      rfl
     refine take_ (i := 6) (N := some 52) (v := ?_) (a' := ?_) (ob 23 127) rfl rfl (by kernel_rfl) (fun _ _ _ h => h) (Or.inl ⟨by rfl, ?_⟩) hHeld ?_ ?_
     rotate_left
     ·rintro w' ⟨s0, s1, s2, s3⟩
      go_simp
      with_reducible rfl
     rotate_left
     ·simp only [Act.put, List.setIfInBounds_toArray, List.set_cons_zero, List.set_cons_succ, i64_w, i32_w]
      rfl
     refine pure_ (i := 7) (N := some 53) (v := ?_) (a' := ?_) (ob 23 255) rfl rfl (by kernel_rfl) (fun _ _ _ h => h) (Or.inl ⟨by rfl, ?_⟩) ?_ ?_
     rotate_left
     ·intro w'
      go_simp
      with_reducible rfl
     rotate_left
     ·simp only [Act.put, List.setIfInBounds_toArray, List.set_cons_zero, List.set_cons_succ, i64_w, i32_w]
      rfl
     refine pure_ (i := 8) (N := some 54) (v := ?_) (a' := ?_) (ob 23 511) rfl rfl (by kernel_rfl) (fun _ _ _ h => h) (Or.inl ⟨by rfl, ?_⟩) ?_ ?_
     rotate_left
     ·intro w'
      go_simp
      with_reducible rfl
     rotate_left
     ·simp only [Act.put, List.setIfInBounds_toArray, List.set_cons_zero, List.set_cons_succ, i64_w, i32_w]
      rfl
     refine pure_ (i := 9) (N := some 55) (v := undef) (a' := ?_) (ob 23 1023) rfl rfl (by kernel_rfl) (fun _ _ _ h => h) (Or.inr ⟨by rfl, rfl⟩) ?_ ?_
     rotate_left
     ·simp only [Act.put, List.setIfInBounds_toArray, List.set_cons_zero, List.set_cons_succ, i64_w, i32_w]
      rfl
     refine pure_ (i := 10) (N := some 56) (v := undef) (a' := ?_) (ob 23 2047) rfl rfl (by kernel_rfl) (fun _ _ _ h => h) (Or.inr ⟨by rfl, rfl⟩) ?_ ?_
     rotate_left
     ·simp only [Act.put, List.setIfInBounds_toArray, List.set_cons_zero, List.set_cons_succ, i64_w, i32_w]
      rfl
     refine pure_ (i := 11) (N := some 57) (v := undef) (a' := ?_) (ob 23 4095) rfl rfl (by kernel_rfl) (fun _ _ _ h => h) (Or.inr ⟨by rfl, rfl⟩) ?_ ?_
     rotate_left
     ·simp only [Act.put, List.setIfInBounds_toArray, List.set_cons_zero, List.set_cons_succ, i64_w, i32_w]
      rfl
     refine pure_ (i := 12) (N := some 58) (v := undef) (a' := ?_) (ob 23 8191) rfl rfl (by kernel_rfl) (fun _ _ _ h => h) (Or.inr ⟨by rfl, rfl⟩) ?_ ?_
     rotate_left
     ·simp only [Act.put, List.setIfInBounds_toArray, List.set_cons_zero, List.set_cons_succ, i64_w, i32_w]
      rfl
     refine pure_ (i := 13) (N := some 59) (v := undef) (a' := ?_) (ob 23 16383) rfl rfl (by kernel_rfl) (fun _ _ _ h => h) (Or.inr ⟨by rfl, rfl⟩) ?_ ?_
     rotate_left
     ·simp only [Act.put, List.setIfInBounds_toArray, List.set_cons_zero, List.set_cons_succ, i64_w, i32_w]
      rfl
     refine pure_ (i := 14) (N := some 60) (v := undef) (a' := ?_) (ob 23 32767) rfl rfl (by kernel_rfl) (fun _ _ _ h => h) (Or.inr ⟨by rfl, rfl⟩) ?_ ?_
     rotate_left
     ·simp only [Act.put, List.setIfInBounds_toArray, List.set_cons_zero, List.set_cons_succ, i64_w, i32_w]
      rfl
     refine pure_ (i := 15) (N := some 61) (v := undef) (a' := ?_) (ob 23 65535) rfl rfl (by kernel_rfl) (fun _ _ _ h => h) (Or.inr ⟨by rfl, rfl⟩) ?_ ?_
     rotate_left
     ·simp only [Act.put, List.setIfInBounds_toArray, List.set_cons_zero, List.set_cons_succ, i64_w, i32_w]
      rfl
     refine pure_ (i := 16) (N := some 62) (v := undef) (a' := ?_) (ob 23 131071) rfl rfl (by kernel_rfl) (fun _ _ _ h => h) (Or.inr ⟨by rfl, rfl⟩) ?_ ?_
     rotate_left
     ·simp only [Act.put, List.setIfInBounds_toArray, List.set_cons_zero, List.set_cons_succ, i64_w, i32_w]
      rfl
     refine pure_ (i := 17) (N := some 63) (v := undef) (a' := ?_) (ob 23 262143) rfl rfl (by kernel_rfl) (fun _ _ _ h => h) (Or.inr ⟨by rfl, rfl⟩) ?_ ?_
     rotate_left
     ·simp only [Act.put, List.setIfInBounds_toArray, List.set_cons_zero, List.set_cons_succ, i64_w, i32_w]
      rfl
     refine pure_ (i := 18) (N := some 64) (v := undef) (a' := ?_) (ob 23 524287) rfl rfl (by kernel_rfl) (fun _ _ _ h => h) (Or.inr ⟨by rfl, rfl⟩) ?_ ?_
     rotate_left
     ·simp only [Act.put, List.setIfInBounds_toArray, List.set_cons_zero, List.set_cons_succ, i64_w, i32_w]
      rfl
     refine pure_ (i := 19) (N := some 65) (v := undef) (a' := ?_) (ob 23 1048575) rfl rfl (by kernel_rfl) (fun _ _ _ h => h) (Or.inr ⟨by rfl, rfl⟩) ?_ ?_
     rotate_left
     ·simp only [Act.put, List.setIfInBounds_toArray, List.set_cons_zero, List.set_cons_succ, i64_w, i32_w]
      rfl
     refine pure_ (i := 20) (N := some 66) (v := ?_) (a' := ?_) (ob 23 2097151) rfl rfl (by kernel_rfl) (fun _ _ _ h => h) (Or.inl ⟨by rfl, ?_⟩) ?_ ?_
     rotate_left
     ·intro w'
      go_simp
      with_reducible rfl
     rotate_left
     ·simp only [Act.put, List.setIfInBounds_toArray, List.set_cons_zero, List.set_cons_succ, i64_w, i32_w]
      rfl
     refine pure_ (i := 21) (N := some 67) (v := ?_) (a' := ?_) (ob 23 4194303) rfl rfl (by kernel_rfl) (fun _ _ _ h => h) (Or.inl ⟨by rfl, ?_⟩) ?_ ?_
     rotate_left
     ·intro w'
      go_simp
      with_reducible rfl
     rotate_left
     ·simp only [Act.put, List.setIfInBounds_toArray, List.set_cons_zero, List.set_cons_succ, i64_w, i32_w]
      rfl
     refine pure_ (i := 22) (N := some 45) (v := ?_) (a' := ?_) (ob 23 8388607) rfl rfl (by kernel_rfl) (fun _ _ _ h => h) (Or.inl ⟨by rfl, ?_⟩) ?_ ?_
     rotate_left
     ·intro w'
      go_simp
      with_reducible rfl
     rotate_left
     ·simp only [Act.put, List.setIfInBounds_toArray, List.set_cons_zero, List.set_cons_succ, i64_w, i32_w]
      rfl
     refine done_ (by kernel_rfl) ?_
     go_wp2_with fail
     go_meet
     case rel => exact ⟨false, rfl, HC2, HP, BX⟩
  case rest => as_aux_lemma =>
   clear HP BX
   try clear HT HC2
   try clear y0 y1 y2 y3 y4 x0 x1 x2 x3 x4 x5 x6 x7 x8 x9 x10 x11 x12
   obtain ⟨b, rfl, HC, HP, BX⟩ := hcut
   have y0 : wc.cell? ⟨g, 0, none⟩ = some (.slice A0 l0.length c0) := (blk_cell HP.out.Q 0).trans rfl
   have y1 : wc.cell? ⟨g, 1, none⟩ = some (.slice (some ad1) l1.length c1) := (blk_cell HP.out.Q 1).trans rfl
   have y2 : wc.cell? ⟨g, 2, none⟩ = some (.map (some b1)) := (blk_cell HP.out.Q 2).trans rfl
   have y3 : wc.cell? ⟨g, 3, none⟩ = some (.map (some b2)) := (blk_cell HP.out.Q 3).trans rfl
   have y4 : wc.cell? ⟨g, 4, none⟩ = some (.map (some b3)) := (blk_cell HP.out.Q 4).trans rfl
   have x0 : wc.cell? ⟨gx, 0, none⟩ = some (.string x.f0) := (blk_cell BX.out 0).trans rfl
   have x1 : wc.cell? ⟨gx, 1, none⟩ = some (.string x.f1) := (blk_cell BX.out 1).trans rfl
   have x2 : wc.cell? ⟨gx, 2, none⟩ = some (.string x.f2) := (blk_cell BX.out 2).trans rfl
   have x3 : wc.cell? ⟨gx, 3, none⟩ = some (.string x.f3) := (blk_cell BX.out 3).trans rfl
   have x4 : wc.cell? ⟨gx, 4, none⟩ = some (.int .i64 x.f4) := (blk_cell BX.out 4).trans rfl
   have x5 : wc.cell? ⟨gx, 5, none⟩ = some (.int .i64 x.f5.f0) := (blk_cell BX.out 5).trans rfl
   have x6 : wc.cell? ⟨gx, 6, none⟩ = some (.bool x.f5.f1) := (blk_cell BX.out 6).trans rfl
   have x7 : wc.cell? ⟨gx, 7, none⟩ = some (.int .i64 x.f5.f2) := (blk_cell BX.out 7).trans rfl
   have x8 : wc.cell? ⟨gx, 8, none⟩ = some (.string x.f5.f3) := (blk_cell BX.out 8).trans rfl
   have x9 : wc.cell? ⟨gx, 9, none⟩ = some (.slice A9 x.f5.f4.length c9) := (blk_cell BX.out 9).trans rfl
   have x10 : wc.cell? ⟨gx, 10, none⟩ = some (.slice A10 x.f5.f5.length c10) := (blk_cell BX.out 10).trans rfl
   have x11 : wc.cell? ⟨gx, 11, none⟩ = some (.string x.f6) := (blk_cell BX.out 11).trans rfl
   have x12 : wc.cell? ⟨gx, 12, none⟩ = some (.slice A12 x.f7.length c12) := (blk_cell BX.out 12).trans rfl
   cases b
   case true =>
    have H1 := HC.out
    unfold pg_a2 at H1
    rw [if_pos rfl] at H1
    cases H1
    go_wp2_with fail
    go_ret
    exact ⟨rfl, HP.out⟩
   have H1 := HC.out
   clear HC
   unfold pg_a2 at H1
   rw [if_neg (by decide)] at H1
   obtain ⟨t3, ht3, H2⟩ := Option.bind_eq_some_iff.1 H1
   have HT := Aside0.mk ht3
   have HC2 := Aside0.mk H2
   clear H1 ht3 H2
   go_upto_if 69 with (fail)
   go_cut [69] (fun v69 wc => ∃ b : Bool, v69 = .bool b ∧ Aside0 (pg_c k l1 sc ad ks x = some (r, ad', ks')) ∧ Aside0 (CkAt w g b1 b2 b3 (.slice A0 l0.length c0) (.slice (some ad1) l1.length c1) sc ad ks wc) ∧ Aside0 (wc.heap[gx]? = some (.cells #[.string x.f0, .string x.f1, .string x.f2, .string x.f3, .int .i64 x.f4, .int .i64 x.f5.f0, .bool x.f5.f1, .int .i64 x.f5.f2, .string x.f5.f3, .slice A9 x.f5.f4.length c9, .slice A10 x.f5.f5.length c10, .string x.f6, .slice A12 x.f7.length c12] 39 (0, 0))))
   case first => as_aux_lemma =>
    have T1 := HT.out
    unfold pg_b3 at T1
    by_cases h0 : 0 < i
    ·obtain ⟨j, rfl⟩ : ∃ j, i = j + 1 := ⟨i - 1, by omega⟩
     have ej : (((j + 1 : Nat) : Int) - 1) = (j : Int) := by omega
     rw [if_pos h0, ej] at T1
     obtain ⟨m, hm, T2⟩ := Option.bind_eq_some_iff.1 T1
     obtain ⟨ad2, B9, d9, B10, d10, B12, d12, e, z0, z1, z2, z3, z4, z5, z6, z7, z8, z9, z10, z11, z12, _, _, _, _, _, _⟩ := at_T39 (Kd.C_below HR1.out HP.out.B) j (by omega) (by omega)
     cases e
     rw [Int.toNat_natCast] at z0 z1 z2 z3 z4 z5 z6 z7 z8 z9 z10 z11 z12
     generalize rd_T39 l1 j = y at *
     cases T2
     have HM := Aside0.mk hm
     have HQ := Aside0.mk HC2.out
     clear HC2 hm T1 HT h0
     have hj1 : (j : Int) < (l1.length : Int) := by omega
     have e0 : decide ((0 : Int) < ((j + 1 : Nat) : Int)) = true := decide_eq_true (by omega)
     have e00 : decide ((0 : Int) < (j : Int) + 1) = true := decide_eq_true (by omega)
     go_upto_region 11 with (fail)
     have n1 := Aside0.mk (HP.out.alloc (.cells #[.string y.f0, .string y.f1, .string y.f2, .string y.f3, .int .i64 y.f4, .int .i64 y.f5.f0, .bool y.f5.f1, .int .i64 y.f5.f2, .string y.f5.f3, .slice B9 y.f5.f4.length d9, .slice B10 y.f5.f5.length d10, .string y.f6, .slice B12 y.f7.length d12] 39))
     have n2 := Aside0.mk (blk_alloc BX.out (.cells #[.string y.f0, .string y.f1, .string y.f2, .string y.f3, .int .i64 y.f4, .int .i64 y.f5.f0, .bool y.f5.f1, .int .i64 y.f5.f2, .string y.f5.f3, .slice B9 y.f5.f4.length d9, .slice B10 y.f5.f5.length d10, .string y.f6, .slice B12 y.f7.length d12] 39))
     have BY := Aside0.mk (blk_new wc (.cells #[.string y.f0, .string y.f1, .string y.f2, .string y.f3, .int .i64 y.f4, .int .i64 y.f5.f0, .bool y.f5.f1, .int .i64 y.f5.f2, .string y.f5.f3, .slice B9 y.f5.f4.length d9, .slice B10 y.f5.f5.length d10, .string y.f6, .slice B12 y.f7.length d12] 39))
     clear y0 y1 y2 y3 y4 x0 x1 x2 x3 x4 x5 x6 x7 x8 x9 x10 x11 x12
     clear z0 z1 z2 z3 z4 z5 z6 z7 z8 z9 z10 z11 z12
     clear HP BX
     have HP := n1
     have BX := n2
     clear n1 n2
     generalize (wc.alloc (.cells #[.string y.f0, .string y.f1, .string y.f2, .string y.f3, .int .i64 y.f4, .int .i64 y.f5.f0, .bool y.f5.f1, .int .i64 y.f5.f2, .string y.f5.f3, .slice B9 y.f5.f4.length d9, .slice B10 y.f5.f5.length d10, .string y.f6, .slice B12 y.f7.length d12] 39)) = W3 at HP BX BY ⊢
     generalize wc.heap.size = gy at BY ⊢
     have y0 : W3.cell? ⟨g, 0, none⟩ = some (.slice A0 l0.length c0) := (blk_cell HP.out.Q 0).trans rfl
     have y1 : W3.cell? ⟨g, 1, none⟩ = some (.slice (some ad1) l1.length c1) := (blk_cell HP.out.Q 1).trans rfl
     have y2 : W3.cell? ⟨g, 2, none⟩ = some (.map (some b1)) := (blk_cell HP.out.Q 2).trans rfl
     have y3 : W3.cell? ⟨g, 3, none⟩ = some (.map (some b2)) := (blk_cell HP.out.Q 3).trans rfl
     have y4 : W3.cell? ⟨g, 4, none⟩ = some (.map (some b3)) := (blk_cell HP.out.Q 4).trans rfl
     have x0 : W3.cell? ⟨gx, 0, none⟩ = some (.string x.f0) := (blk_cell BX.out 0).trans rfl
     have x1 : W3.cell? ⟨gx, 1, none⟩ = some (.string x.f1) := (blk_cell BX.out 1).trans rfl
     have x2 : W3.cell? ⟨gx, 2, none⟩ = some (.string x.f2) := (blk_cell BX.out 2).trans rfl
     have x3 : W3.cell? ⟨gx, 3, none⟩ = some (.string x.f3) := (blk_cell BX.out 3).trans rfl
     have x4 : W3.cell? ⟨gx, 4, none⟩ = some (.int .i64 x.f4) := (blk_cell BX.out 4).trans rfl
     have x5 : W3.cell? ⟨gx, 5, none⟩ = some (.int .i64 x.f5.f0) := (blk_cell BX.out 5).trans rfl
     have x6 : W3.cell? ⟨gx, 6, none⟩ = some (.bool x.f5.f1) := (blk_cell BX.out 6).trans rfl
     have x7 : W3.cell? ⟨gx, 7, none⟩ = some (.int .i64 x.f5.f2) := (blk_cell BX.out 7).trans rfl
     have x8 : W3.cell? ⟨gx, 8, none⟩ = some (.string x.f5.f3) := (blk_cell BX.out 8).trans rfl
     have x9 : W3.cell? ⟨gx, 9, none⟩ = some (.slice A9 x.f5.f4.length c9) := (blk_cell BX.out 9).trans rfl
     have x10 : W3.cell? ⟨gx, 10, none⟩ = some (.slice A10 x.f5.f5.length c10) := (blk_cell BX.out 10).trans rfl
     have x11 : W3.cell? ⟨gx, 11, none⟩ = some (.string x.f6) := (blk_cell BX.out 11).trans rfl
     have x12 : W3.cell? ⟨gx, 12, none⟩ = some (.slice A12 x.f7.length c12) := (blk_cell BX.out 12).trans rfl
     have z2 : W3.cell? ⟨gy, 2, none⟩ = some (.string y.f2) := (blk_cell BY.out 2).trans rfl
     have z3 : W3.cell? ⟨gy, 3, none⟩ = some (.string y.f3) := (blk_cell BY.out 3).trans rfl
     go_quiet (first | (go_at_call 18; (with_reducible refine (tree_position.calls k A0 c0 l0 y.f2 m _ ?side1 HC0.out HM.out).mono ?_); (case side1 => exact Kd.C_below HR0.out (pw_below_drewN HP.out.B _)); rintro e w' ⟨rfl, ⟨nd, rfl⟩⟩; exact ⟨rfl, _, World.drewN_drewN _ _ _⟩))
     have z4 : (W3.drewN nq).cell? ⟨gy, 3, none⟩ = some (.string y.f3) := (blk_cell (show (W3.drewN nq).heap[gy]? = some (.cells #[.string y.f0, .string y.f1, .string y.f2, .string y.f3, .int .i64 y.f4, .int .i64 y.f5.f0, .bool y.f5.f1, .int .i64 y.f5.f2, .string y.f5.f3, .slice B9 y.f5.f4.length d9, .slice B10 y.f5.f5.length d10, .string y.f6, .slice B12 y.f7.length d12] 39 (0, 0)) from BY.out) 3).trans rfl
     clear z2 z3
     have n1 := Aside0.mk (HP.out.drewN nq)
     have n2 := Aside0.mk (show (W3.drewN nq).heap[gx]? = some (.cells #[.string x.f0, .string x.f1, .string x.f2, .string x.f3, .int .i64 x.f4, .int .i64 x.f5.f0, .bool x.f5.f1, .int .i64 x.f5.f2, .string x.f5.f3, .slice A9 x.f5.f4.length c9, .slice A10 x.f5.f5.length c10, .string x.f6, .slice A12 x.f7.length c12] 39 (0, 0)) from BX.out)
     clear y0 y1 y2 y3 y4 x0 x1 x2 x3 x4 x5 x6 x7 x8 x9 x10 x11 x12
     clear HP BX BY
     have HP := n1
     have BX := n2
     clear n1 n2
     generalize W3.drewN nq = W4 at HP BX z4 ⊢
     have y0 : W4.cell? ⟨g, 0, none⟩ = some (.slice A0 l0.length c0) := (blk_cell HP.out.Q 0).trans rfl
     have y1 : W4.cell? ⟨g, 1, none⟩ = some (.slice (some ad1) l1.length c1) := (blk_cell HP.out.Q 1).trans rfl
     have y2 : W4.cell? ⟨g, 2, none⟩ = some (.map (some b1)) := (blk_cell HP.out.Q 2).trans rfl
     have y3 : W4.cell? ⟨g, 3, none⟩ = some (.map (some b2)) := (blk_cell HP.out.Q 3).trans rfl
     have y4 : W4.cell? ⟨g, 4, none⟩ = some (.map (some b3)) := (blk_cell HP.out.Q 4).trans rfl
     have x0 : W4.cell? ⟨gx, 0, none⟩ = some (.string x.f0) := (blk_cell BX.out 0).trans rfl
     have x1 : W4.cell? ⟨gx, 1, none⟩ = some (.string x.f1) := (blk_cell BX.out 1).trans rfl
     have x2 : W4.cell? ⟨gx, 2, none⟩ = some (.string x.f2) := (blk_cell BX.out 2).trans rfl
     have x3 : W4.cell? ⟨gx, 3, none⟩ = some (.string x.f3) := (blk_cell BX.out 3).trans rfl
     have x4 : W4.cell? ⟨gx, 4, none⟩ = some (.int .i64 x.f4) := (blk_cell BX.out 4).trans rfl
     have x5 : W4.cell? ⟨gx, 5, none⟩ = some (.int .i64 x.f5.f0) := (blk_cell BX.out 5).trans rfl
     have x6 : W4.cell? ⟨gx, 6, none⟩ = some (.bool x.f5.f1) := (blk_cell BX.out 6).trans rfl
     have x7 : W4.cell? ⟨gx, 7, none⟩ = some (.int .i64 x.f5.f2) := (blk_cell BX.out 7).trans rfl
     have x8 : W4.cell? ⟨gx, 8, none⟩ = some (.string x.f5.f3) := (blk_cell BX.out 8).trans rfl
     have x9 : W4.cell? ⟨gx, 9, none⟩ = some (.slice A9 x.f5.f4.length c9) := (blk_cell BX.out 9).trans rfl
     have x10 : W4.cell? ⟨gx, 10, none⟩ = some (.slice A10 x.f5.f5.length c10) := (blk_cell BX.out 10).trans rfl
     have x11 : W4.cell? ⟨gx, 11, none⟩ = some (.string x.f6) := (blk_cell BX.out 11).trans rfl
     have x12 : W4.cell? ⟨gx, 12, none⟩ = some (.slice A12 x.f7.length c12) := (blk_cell BX.out 12).trans rfl
     have hgeq_ := Less.geq
     have H1 := HQ.out
     by_cases h1 : n < m
     ·have e1 : decide (n < m) = true := decide_eq_true h1
      simp only [e1, Bool.true_or, pg_a3, if_true] at H1
      cases H1
      clear h1 HQ
      go_wp2_with fail
      go_ret
      exact ⟨rfl, HP.out⟩
     ·have e1 : decide (n < m) = false := decide_eq_false h1
      by_cases h2 : m = n
      ·have e2 : (m == n) = true := beq_iff_eq.2 h2
       cases h3 : Op.bytesLess y.f3.toList x.f3.toList
       case false =>
        simp only [e1, e2, h3, Bool.false_or, Bool.true_and, Bool.not_false, pg_a3, if_true] at H1
        cases H1
        clear h1 h2 HQ
        go_wp2_with fail
        go_ret
        exact ⟨rfl, HP.out⟩
       case true =>
        simp only [e1, e2, h3, Bool.false_or, Bool.true_and, Bool.not_true, pg_a3, Bool.false_eq_true, if_false] at H1
        have HC3 := Aside0.mk H1
        clear h1 h2 HQ H1
        go_wp2_with fail
        go_meet
        case rel => exact ⟨_, rfl, HC3, HP, BX⟩
      ·have e2 : (m == n) = false := beq_eq_false_iff_ne.2 h2
       simp only [e1, e2, Bool.false_or, Bool.false_and, pg_a3, Bool.false_eq_true, if_false] at H1
       have HC3 := Aside0.mk H1
       clear h1 h2 HQ H1
       go_wp2_with fail
       go_meet
       case rel => exact ⟨_, rfl, HC3, HP, BX⟩
    ·rw [if_neg h0] at T1
     cases T1
     have H1 := HC2.out
     simp only [pg_a3, Bool.false_eq_true, if_false] at H1
     have HC3 := Aside0.mk H1
     have e0 : ¬ (0 < i) := h0
     have e1 : decide (0 < i) = false := decide_eq_false h0
     have e2 : decide ((0 : Int) < (i : Int)) = false := decide_eq_false (by omega)
     clear h0 H1 HC2 HT
     go_wp2_with fail
     go_meet
     case rel => exact ⟨_, rfl, HC3, HP, BX⟩
   case rest => as_aux_lemma =>
    clear HP BX
    try clear HT HC2
    try clear y0 y1 y2 y3 y4 x0 x1 x2 x3 x4 x5 x6 x7 x8 x9 x10 x11 x12
    obtain ⟨b, rfl, HC, HP, BX⟩ := hcut
    have y0 : wc.cell? ⟨g, 0, none⟩ = some (.slice A0 l0.length c0) := (blk_cell HP.out.Q 0).trans rfl
    have y1 : wc.cell? ⟨g, 1, none⟩ = some (.slice (some ad1) l1.length c1) := (blk_cell HP.out.Q 1).trans rfl
    have y2 : wc.cell? ⟨g, 2, none⟩ = some (.map (some b1)) := (blk_cell HP.out.Q 2).trans rfl
    have y3 : wc.cell? ⟨g, 3, none⟩ = some (.map (some b2)) := (blk_cell HP.out.Q 3).trans rfl
    have y4 : wc.cell? ⟨g, 4, none⟩ = some (.map (some b3)) := (blk_cell HP.out.Q 4).trans rfl
    have x0 : wc.cell? ⟨gx, 0, none⟩ = some (.string x.f0) := (blk_cell BX.out 0).trans rfl
    have x1 : wc.cell? ⟨gx, 1, none⟩ = some (.string x.f1) := (blk_cell BX.out 1).trans rfl
    have x2 : wc.cell? ⟨gx, 2, none⟩ = some (.string x.f2) := (blk_cell BX.out 2).trans rfl
    have x3 : wc.cell? ⟨gx, 3, none⟩ = some (.string x.f3) := (blk_cell BX.out 3).trans rfl
    have x4 : wc.cell? ⟨gx, 4, none⟩ = some (.int .i64 x.f4) := (blk_cell BX.out 4).trans rfl
    have x5 : wc.cell? ⟨gx, 5, none⟩ = some (.int .i64 x.f5.f0) := (blk_cell BX.out 5).trans rfl
    have x6 : wc.cell? ⟨gx, 6, none⟩ = some (.bool x.f5.f1) := (blk_cell BX.out 6).trans rfl
    have x7 : wc.cell? ⟨gx, 7, none⟩ = some (.int .i64 x.f5.f2) := (blk_cell BX.out 7).trans rfl
    have x8 : wc.cell? ⟨gx, 8, none⟩ = some (.string x.f5.f3) := (blk_cell BX.out 8).trans rfl
    have x9 : wc.cell? ⟨gx, 9, none⟩ = some (.slice A9 x.f5.f4.length c9) := (blk_cell BX.out 9).trans rfl
    have x10 : wc.cell? ⟨gx, 10, none⟩ = some (.slice A10 x.f5.f5.length c10) := (blk_cell BX.out 10).trans rfl
    have x11 : wc.cell? ⟨gx, 11, none⟩ = some (.string x.f6) := (blk_cell BX.out 11).trans rfl
    have x12 : wc.cell? ⟨gx, 12, none⟩ = some (.slice A12 x.f7.length c12) := (blk_cell BX.out 12).trans rfl
    have H1 := HC.out
    clear HC
    unfold pg_c at H1
    obtain ⟨e, he, H2⟩ := Option.bind_eq_some_iff.1 H1
    have HE := Aside0.mk he
    clear H1 he
    by_cases h0 : e = 0
    case neg =>
     have e1 : (e == 0) = false := beq_eq_false_iff_ne.2 h0
     have e2 : (e != 0) = true := bne_iff_ne.2 h0
     rw [if_neg h0] at H2
     cases H2
     clear h0
     go_wp2_with (go_at_call 21; refine (conf_Check.calls k x.f5.f0 x.f5.f1 x.f5.f2 x.f5.f3 A9 c9 x.f5.f4 A10 c10 x.f5.f5 _ _ (Kd.C_below HK9.out HP.out.B) HL9.out (Kd.C_below HK10.out HP.out.B) HL10.out HE.out).mono ?_; rintro ee W3 ⟨rfl, hb⟩; have n1 := Aside0.mk (HP.out.below hb); have n2 := Aside0.mk (blk_below BX.out hb); clear y0 y1 y2 y3 y4 x0 x1 x2 x3 x4 x5 x6 x7 x8 x9 x10 x11 x12; clear HP BX hb; have HP := n1; have BX := n2; clear n1 n2; have x1 : W3.cell? ⟨gx, 1, none⟩ = some (.string x.f1) := (blk_cell BX.out 1).trans rfl; have x2 : W3.cell? ⟨gx, 2, none⟩ = some (.string x.f2) := (blk_cell BX.out 2).trans rfl)
     go_ret
     exact ⟨rfl, HP.out⟩
    have e1 : (e == 0) = true := beq_iff_eq.2 h0
    have e2 : (e != 0) = false := bne_eq_false_iff_eq.2 h0
    rw [if_pos h0] at H2
    unfold pg_mid at H2
    obtain ⟨t, ht, H3⟩ := Option.bind_eq_some_iff.1 H2
    have HT := Aside0.mk ht
    clear h0 H2 ht
    split at H3
    case isFalse => cases H3
    rename_i hts
    have HTS := Aside0.mk hts
    have HC2 := Aside0.mk H3
    clear hts H3
    go_upto_region 18 with (go_at_call 21; refine (conf_Check.calls k x.f5.f0 x.f5.f1 x.f5.f2 x.f5.f3 A9 c9 x.f5.f4 A10 c10 x.f5.f5 _ _ (Kd.C_below HK9.out HP.out.B) HL9.out (Kd.C_below HK10.out HP.out.B) HL10.out HE.out).mono ?_; rintro ee W3 ⟨rfl, hb⟩; have n1 := Aside0.mk (HP.out.below hb); have n2 := Aside0.mk (blk_below BX.out hb); clear y0 y1 y2 y3 y4 x0 x1 x2 x3 x4 x5 x6 x7 x8 x9 x10 x11 x12; clear HP BX hb; have HP := n1; have BX := n2; clear n1 n2; have x1 : W3.cell? ⟨gx, 1, none⟩ = some (.string x.f1) := (blk_cell BX.out 1).trans rfl; have x2 : W3.cell? ⟨gx, 2, none⟩ = some (.string x.f2) := (blk_cell BX.out 2).trans rfl)
    have n1 := Aside0.mk (HP.out.alloc (.cells #[.string (⟨#[107, 101, 121]⟩ : ByteArray), .string x.f2, .string x.f1] 60))
    have n2 := Aside0.mk (blk_alloc BX.out (.cells #[.string (⟨#[107, 101, 121]⟩ : ByteArray), .string x.f2, .string x.f1] 60))
    have BK := Aside0.mk (blk_new W3 (.cells #[.string (⟨#[107, 101, 121]⟩ : ByteArray), .string x.f2, .string x.f1] 60))
    clear x1 x2
    clear HP BX
    have HP := n1
    have BX := n2
    clear n1 n2
    generalize (W3.alloc (.cells #[.string (⟨#[107, 101, 121]⟩ : ByteArray), .string x.f2, .string x.f1] 60)) = W4 at HP BX BK ⊢
    generalize W3.heap.size = gk at BK ⊢
    have y0 : W4.cell? ⟨g, 0, none⟩ = some (.slice A0 l0.length c0) := (blk_cell HP.out.Q 0).trans rfl
    have y1 : W4.cell? ⟨g, 1, none⟩ = some (.slice (some ad1) l1.length c1) := (blk_cell HP.out.Q 1).trans rfl
    have y2 : W4.cell? ⟨g, 2, none⟩ = some (.map (some b1)) := (blk_cell HP.out.Q 2).trans rfl
    have y3 : W4.cell? ⟨g, 3, none⟩ = some (.map (some b2)) := (blk_cell HP.out.Q 3).trans rfl
    have y4 : W4.cell? ⟨g, 4, none⟩ = some (.map (some b3)) := (blk_cell HP.out.Q 4).trans rfl
    have x0 : W4.cell? ⟨gx, 0, none⟩ = some (.string x.f0) := (blk_cell BX.out 0).trans rfl
    have x1 : W4.cell? ⟨gx, 1, none⟩ = some (.string x.f1) := (blk_cell BX.out 1).trans rfl
    have x2 : W4.cell? ⟨gx, 2, none⟩ = some (.string x.f2) := (blk_cell BX.out 2).trans rfl
    have x3 : W4.cell? ⟨gx, 3, none⟩ = some (.string x.f3) := (blk_cell BX.out 3).trans rfl
    have x4 : W4.cell? ⟨gx, 4, none⟩ = some (.int .i64 x.f4) := (blk_cell BX.out 4).trans rfl
    have x5 : W4.cell? ⟨gx, 5, none⟩ = some (.int .i64 x.f5.f0) := (blk_cell BX.out 5).trans rfl
    have x6 : W4.cell? ⟨gx, 6, none⟩ = some (.bool x.f5.f1) := (blk_cell BX.out 6).trans rfl
    have x7 : W4.cell? ⟨gx, 7, none⟩ = some (.int .i64 x.f5.f2) := (blk_cell BX.out 7).trans rfl
    have x8 : W4.cell? ⟨gx, 8, none⟩ = some (.string x.f5.f3) := (blk_cell BX.out 8).trans rfl
    have x9 : W4.cell? ⟨gx, 9, none⟩ = some (.slice A9 x.f5.f4.length c9) := (blk_cell BX.out 9).trans rfl
    have x10 : W4.cell? ⟨gx, 10, none⟩ = some (.slice A10 x.f5.f5.length c10) := (blk_cell BX.out 10).trans rfl
    have x11 : W4.cell? ⟨gx, 11, none⟩ = some (.string x.f6) := (blk_cell BX.out 11).trans rfl
    have x12 : W4.cell? ⟨gx, 12, none⟩ = some (.slice A12 x.f7.length c12) := (blk_cell BX.out 12).trans rfl
    have n1 := Aside0.mk HP.out.drew
    have n2 := Aside0.mk (show (W4.drew).heap[gx]? = some (.cells #[.string x.f0, .string x.f1, .string x.f2, .string x.f3, .int .i64 x.f4, .int .i64 x.f5.f0, .bool x.f5.f1, .int .i64 x.f5.f2, .string x.f5.f3, .slice A9 x.f5.f4.length c9, .slice A10 x.f5.f5.length c10, .string x.f6, .slice A12 x.f7.length c12] 39 (0, 0)) from BX.out)
    have n3 := Aside0.mk (show (W4.drew).heap[gk]? = some (.cells #[.string (⟨#[107, 101, 121]⟩ : ByteArray), .string x.f2, .string x.f1] 60 (0, 0)) from BK.out)
    clear y0 y1 y2 y3 y4 x0 x1 x2 x3 x4 x5 x6 x7 x8 x9 x10 x11 x12
    clear HP BX BK
    have HP := n1
    have BX := n2
    have BK := n3
    clear n1 n2 n3
    refine start_ (n := 10) (S := fun w' => w'.cell? ⟨gx, 1, none⟩ = some (.string x.f1) ∧ w'.cell? ⟨gx, 2, none⟩ = some (.string x.f2) ∧ w'.cell? ⟨gx, 5, none⟩ = some (.int .i64 x.f5.f0) ∧ w'.cell? ⟨gx, 6, none⟩ = some (.bool x.f5.f1) ∧ w'.cell? ⟨gx, 7, none⟩ = some (.int .i64 x.f5.f2) ∧ w'.cell? ⟨gx, 8, none⟩ = some (.string x.f5.f3) ∧ w'.cell? ⟨gx, 9, none⟩ = some (.slice A9 x.f5.f4.length c9) ∧ w'.cell? ⟨gx, 10, none⟩ = some (.slice A10 x.f5.f5.length c10)) (ds := []) #[false, false, false, false, false, false, false, false, false, false] (by kernel_rfl) rfl rfl ⟨(blk_cell BX.out 1), (blk_cell BX.out 2), (blk_cell BX.out 5), (blk_cell BX.out 6), (blk_cell BX.out 7), (blk_cell BX.out 8), (blk_cell BX.out 9), (blk_cell BX.out 10)⟩ (fun hHeld => ?_)
    generalize W4.drew = W5 at HP BX BK hHeld ⊢
    refine pure_ (i := 0) (N := some 113) (v := ?_) (a' := ?_) (ob 10 1) rfl rfl (by kernel_rfl) (fun _ _ _ h => h) (Or.inl ⟨by rfl, ?_⟩) ?_ ?_
    rotate_left
    ·intro w'
     go_simp
     with_reducible rfl
    rotate_left
    ·simp only [Act.put, List.setIfInBounds_toArray, List.set_cons_zero, List.set_cons_succ, i64_w, i32_w]
     rfl
    refine pure_ (i := 2) (N := some 115) (v := ?_) (a' := ?_) (ob 10 5) rfl rfl (by kernel_rfl) (fun _ _ _ h => h) (Or.inl ⟨by rfl, ?_⟩) ?_ ?_
    rotate_left
    ·intro w'
     go_simp
     with_reducible rfl
    rotate_left
    ·simp only [Act.put, List.setIfInBounds_toArray, List.set_cons_zero, List.set_cons_succ, i64_w, i32_w]
     rfl
    refine pure_ (i := 4) (N := some 117) (v := ?_) (a' := ?_) (ob 10 21) rfl rfl (by kernel_rfl) (fun _ _ _ h => h) (Or.inl ⟨by rfl, ?_⟩) ?_ ?_
    rotate_left
    ·intro w'
     go_simp
     with_reducible rfl
    rotate_left
    ·simp only [Act.put, List.setIfInBounds_toArray, List.set_cons_zero, List.set_cons_succ, i64_w, i32_w]
     rfl
    refine take_ (i := 1) (N := some 114) (v := ?_) (a' := ?_) (ob 10 23) rfl rfl (by kernel_rfl) (fun _ _ _ h => h) (Or.inl ⟨by rfl, ?_⟩) hHeld ?_ ?_
    rotate_left
    ·rintro w' ⟨s0, s1, s2, s3, s4, s5, s6, s7⟩
     go_simp
     with_reducible rfl
    rotate_left
    ·simp only [Act.put, List.setIfInBounds_toArray, List.set_cons_zero, List.set_cons_succ, i64_w, i32_w]
     rfl
    refine take_ (i := 3) (N := some 116) (v := ?_) (a' := ?_) (ob 10 31) rfl rfl (by kernel_rfl) (fun _ _ _ h => h) (Or.inl ⟨by rfl, ?_⟩) hHeld ?_ ?_
    rotate_left
    ·rintro w' ⟨s0, s1, s2, s3, s4, s5, s6, s7⟩
     go_simp
     with_reducible rfl
    rotate_left
    ·simp only [Act.put, List.setIfInBounds_toArray, List.set_cons_zero, List.set_cons_succ, i64_w, i32_w]
     rfl
    refine take_ (i := 5) (N := some 118) (v := ?_) (a' := ?_) (ob 10 63) rfl rfl (by kernel_rfl) (fun _ _ _ h => h) (Or.inl ⟨by rfl, ?_⟩) hHeld ?_ ?_
    rotate_left
    ·rintro w' ⟨s0, s1, s2, s3, s4, s5, s6, s7⟩
     go_simp
     with_reducible rfl
    rotate_left
    ·simp only [Act.put, List.setIfInBounds_toArray, List.set_cons_zero, List.set_cons_succ, i64_w, i32_w]
     rfl
    refine join_ (σ := Nat) 1 (ob 10 511) (fun s => [(119, .string t), (120, .agg #[.string (⟨#[116, 114, 97, 110, 115, 108, 97, 116, 105, 111, 110]⟩ : ByteArray), .string x.f2, .string t]), (11, .pointer (some ⟨s, 0, none⟩))]) (fun s w' => CkAt w g b1 b2 b3 (.slice A0 l0.length c0) (.slice (some ad1) l1.length c1) sc ad ks w' ∧ w'.heap[gx]? = some (.cells #[.string x.f0, .string x.f1, .string x.f2, .string x.f3, .int .i64 x.f4, .int .i64 x.f5.f0, .bool x.f5.f1, .int .i64 x.f5.f2, .string x.f5.f3, .slice A9 x.f5.f4.length c9, .slice A10 x.f5.f5.length c10, .string x.f6, .slice A12 x.f7.length c12] 39 (0, 0)) ∧ w'.heap[gk]? = some (.cells #[.string (⟨#[107, 101, 121]⟩ : ByteArray), .string x.f2, .string x.f1] 60 (0, 0)) ∧ w'.heap[s]? = some (.cells #[.string (⟨#[]⟩ : ByteArray), .string (⟨#[]⟩ : ByteArray), .string (⟨#[]⟩ : ByteArray)] 60 (0, 0)) ∧ w.heap.size ≤ s ∧ gk ≠ s) ?_ ?_
    rotate_left
    ·intro hCont
     refine two_ (i := 6) (j := 8) (Ni := some 119) (Nj := some 11) (ob 10 127) (ob 10 319) rfl rfl rfl rfl (by kernel_rfl) (by decide) (by decide) (fun K hK => ?_) (fun K hK => ?_)
     ·skip
      refine goes_ Tryd.func22 (by kernel_rfl) rfl #[.agg #[.int .i64 x.f5.f0, .bool x.f5.f1, .int .i64 x.f5.f2, .string x.f5.f3, .slice A9 x.f5.f4.length c9, .slice A10 x.f5.f5.length c10], .string x.f1] (by rfl) rfl rfl (by simp only [List.map_toArray, List.map_cons, List.map_nil]; rfl) ?_
      with_reducible refine (tree_translation.calls k x.f5.f0 x.f5.f1 x.f5.f2 x.f5.f3 A9 c9 x.f5.f4 A10 c10 x.f5.f5 x.f1 t _ ?side1 HL9.out ?side2 HL10.out HT.out).mono ?_
      (case side1 => exact Kd.C_below HK9.out HP.out.B)
      (case side2 => exact Kd.C_below HK10.out HP.out.B)
      rintro e_ W6 ⟨rfl, hb⟩
      refine ⟨_, rfl, ?_⟩
      have n1 := Aside0.mk (HP.out.below hb)
      have n2 := Aside0.mk (blk_below BX.out hb)
      have n3 := Aside0.mk (blk_below BK.out hb)
      clear HP BX BK
      have HP := n1
      have BX := n2
      have BK := n3
      clear n1 n2 n3
      clear hb
      refine hK.out _ _ ⟨(blk_cell BX.out 1), (blk_cell BX.out 2), (blk_cell BX.out 5), (blk_cell BX.out 6), (blk_cell BX.out 7), (blk_cell BX.out 8), (blk_cell BX.out 9), (blk_cell BX.out 10)⟩ (fun hHeld => ?_)
      clear hK K
      refine norm_ (a' := ?_) ?_ ?_
      rotate_left
      ·show Act.put _ (some 119) _ = _
       simp only [Act.put, List.setIfInBounds_toArray, List.set_cons_zero, List.set_cons_succ, i64_w, i32_w]
       rfl
      refine pure_ (i := 7) (N := some 120) (v := ?_) (a' := ?_) (ob 10 255) rfl rfl (by kernel_rfl) (fun _ _ _ h => h) (Or.inl ⟨by rfl, ?_⟩) ?_ ?_
      rotate_left
      ·intro w'
       go_simp
       with_reducible rfl
      rotate_left
      ·simp only [Act.put, List.setIfInBounds_toArray, List.set_cons_zero, List.set_cons_succ, i64_w, i32_w]
       rfl
      refine one_ (i := 8) (N := some 11) (ob 10 511) rfl rfl (by kernel_rfl) (by decide) (fun K hK => ?_)
      refine value_ (w1 := ?_) (v := ?_) (by rfl) rfl ?_ ?_
      rotate_left 2
      ·go_simp
       constructor
       ·rfl
       ·rfl
      have BS := Aside0.mk (blk_new W6 (.cells #[.string (⟨#[]⟩ : ByteArray), .string (⟨#[]⟩ : ByteArray), .string (⟨#[]⟩ : ByteArray)] 60))
      have NE := Aside0.mk (Nat.ne_of_lt (blk_lt BK.out))
      have GS := Aside0.mk (below_size HP.out.B)
      have n1 := Aside0.mk (HP.out.alloc (.cells #[.string (⟨#[]⟩ : ByteArray), .string (⟨#[]⟩ : ByteArray), .string (⟨#[]⟩ : ByteArray)] 60))
      have n2 := Aside0.mk (blk_alloc BX.out (.cells #[.string (⟨#[]⟩ : ByteArray), .string (⟨#[]⟩ : ByteArray), .string (⟨#[]⟩ : ByteArray)] 60))
      have n3 := Aside0.mk (blk_alloc BK.out (.cells #[.string (⟨#[]⟩ : ByteArray), .string (⟨#[]⟩ : ByteArray), .string (⟨#[]⟩ : ByteArray)] 60))
      clear HP BX BK
      have HP := n1
      have BX := n2
      have BK := n3
      clear n1 n2 n3
      refine hK.out _ _ ⟨(blk_cell BX.out 1), (blk_cell BX.out 2), (blk_cell BX.out 5), (blk_cell BX.out 6), (blk_cell BX.out 7), (blk_cell BX.out 8), (blk_cell BX.out 9), (blk_cell BX.out 10)⟩ (fun hHeld => ?_)
      clear hK K
      refine norm_ (a' := ?_) ?_ ?_
      rotate_left
      ·show Act.put _ (some 11) _ = _
       simp only [Act.put, List.setIfInBounds_toArray, List.set_cons_zero, List.set_cons_succ, i64_w, i32_w]
       rfl
      exact norm_ (by simp only [putAll, Act.put, List.setIfInBounds_toArray, List.set_cons_zero, List.set_cons_succ]) (hCont _ _ ⟨HP.out, BX.out, BK.out, BS.out, GS.out, NE.out⟩)
     ·skip
      refine value_ (w1 := ?_) (v := ?_) (by rfl) rfl ?_ ?_
      rotate_left 2
      ·go_simp
       constructor
       ·rfl
       ·rfl
      have BS := Aside0.mk (blk_new W5 (.cells #[.string (⟨#[]⟩ : ByteArray), .string (⟨#[]⟩ : ByteArray), .string (⟨#[]⟩ : ByteArray)] 60))
      have NE := Aside0.mk (Nat.ne_of_lt (blk_lt BK.out))
      have GS := Aside0.mk (below_size HP.out.B)
      have n1 := Aside0.mk (HP.out.alloc (.cells #[.string (⟨#[]⟩ : ByteArray), .string (⟨#[]⟩ : ByteArray), .string (⟨#[]⟩ : ByteArray)] 60))
      have n2 := Aside0.mk (blk_alloc BX.out (.cells #[.string (⟨#[]⟩ : ByteArray), .string (⟨#[]⟩ : ByteArray), .string (⟨#[]⟩ : ByteArray)] 60))
      have n3 := Aside0.mk (blk_alloc BK.out (.cells #[.string (⟨#[]⟩ : ByteArray), .string (⟨#[]⟩ : ByteArray), .string (⟨#[]⟩ : ByteArray)] 60))
      clear HP BX BK
      have HP := n1
      have BX := n2
      have BK := n3
      clear n1 n2 n3
      refine hK.out _ _ ⟨(blk_cell BX.out 1), (blk_cell BX.out 2), (blk_cell BX.out 5), (blk_cell BX.out 6), (blk_cell BX.out 7), (blk_cell BX.out 8), (blk_cell BX.out 9), (blk_cell BX.out 10)⟩ (fun hHeld => ?_)
      clear hK K
      refine norm_ (a' := ?_) ?_ ?_
      rotate_left
      ·show Act.put _ (some 11) _ = _
       simp only [Act.put, List.setIfInBounds_toArray, List.set_cons_zero, List.set_cons_succ, i64_w, i32_w]
       rfl
      refine one_ (i := 6) (N := some 119) (ob 10 383) rfl rfl (by kernel_rfl) (by decide) (fun K hK => ?_)
      refine goes_ Tryd.func22 (by kernel_rfl) rfl #[.agg #[.int .i64 x.f5.f0, .bool x.f5.f1, .int .i64 x.f5.f2, .string x.f5.f3, .slice A9 x.f5.f4.length c9, .slice A10 x.f5.f5.length c10], .string x.f1] (by rfl) rfl rfl (by simp only [List.map_toArray, List.map_cons, List.map_nil]; rfl) ?_
      with_reducible refine (tree_translation.calls k x.f5.f0 x.f5.f1 x.f5.f2 x.f5.f3 A9 c9 x.f5.f4 A10 c10 x.f5.f5 x.f1 t _ ?side1 HL9.out ?side2 HL10.out HT.out).mono ?_
      (case side1 => exact Kd.C_below HK9.out HP.out.B)
      (case side2 => exact Kd.C_below HK10.out HP.out.B)
      rintro e_ W7 ⟨rfl, hb⟩
      refine ⟨_, rfl, ?_⟩
      have n4 := Aside0.mk (blk_below BS.out hb)
      clear BS
      have BS := n4
      clear n4
      have n1 := Aside0.mk (HP.out.below hb)
      have n2 := Aside0.mk (blk_below BX.out hb)
      have n3 := Aside0.mk (blk_below BK.out hb)
      clear HP BX BK
      have HP := n1
      have BX := n2
      have BK := n3
      clear n1 n2 n3
      clear hb
      refine hK.out _ _ ⟨(blk_cell BX.out 1), (blk_cell BX.out 2), (blk_cell BX.out 5), (blk_cell BX.out 6), (blk_cell BX.out 7), (blk_cell BX.out 8), (blk_cell BX.out 9), (blk_cell BX.out 10)⟩ (fun hHeld => ?_)
      clear hK K
      refine norm_ (a' := ?_) ?_ ?_
      rotate_left
      ·show Act.put _ (some 119) _ = _
       simp only [Act.put, List.setIfInBounds_toArray, List.set_cons_zero, List.set_cons_succ, i64_w, i32_w]
       rfl
      refine pure_ (i := 7) (N := some 120) (v := ?_) (a' := ?_) (ob 10 511) rfl rfl (by kernel_rfl) (fun _ _ _ h => h) (Or.inl ⟨by rfl, ?_⟩) ?_ ?_
      rotate_left
      ·intro w'
       go_simp
       with_reducible rfl
      rotate_left
      ·simp only [Act.put, List.setIfInBounds_toArray, List.set_cons_zero, List.set_cons_succ, i64_w, i32_w]
       rfl
      exact norm_ (by simp only [putAll, Act.put, List.setIfInBounds_toArray, List.set_cons_zero, List.set_cons_succ]) (hCont _ _ ⟨HP.out, BX.out, BK.out, BS.out, GS.out, NE.out⟩)
    clear HP BX BK
    rintro s W8 ⟨hp, hx, hk, hs, hg, hn⟩
    have HP := Aside0.mk hp
    have BX := Aside0.mk hx
    have BK := Aside0.mk hk
    have BS := Aside0.mk hs
    have GS := Aside0.mk hg
    have NE := Aside0.mk hn
    clear hp hx hk hs hg hn
    have hHeld : W8.cell? ⟨gx, 1, none⟩ = some (.string x.f1) ∧ W8.cell? ⟨gx, 2, none⟩ = some (.string x.f2) ∧ W8.cell? ⟨gx, 5, none⟩ = some (.int .i64 x.f5.f0) ∧ W8.cell? ⟨gx, 6, none⟩ = some (.bool x.f5.f1) ∧ W8.cell? ⟨gx, 7, none⟩ = some (.int .i64 x.f5.f2) ∧ W8.cell? ⟨gx, 8, none⟩ = some (.string x.f5.f3) ∧ W8.cell? ⟨gx, 9, none⟩ = some (.slice A9 x.f5.f4.length c9) ∧ W8.cell? ⟨gx, 10, none⟩ = some (.slice A10 x.f5.f5.length c10) := ⟨(blk_cell BX.out 1), (blk_cell BX.out 2), (blk_cell BX.out 5), (blk_cell BX.out 6), (blk_cell BX.out 7), (blk_cell BX.out 8), (blk_cell BX.out 9), (blk_cell BX.out 10)⟩
    refine norm_ (a' := ?_) ?_ ?_
    rotate_left
    ·simp only [putAll, Act.put, List.setIfInBounds_toArray, List.set_cons_zero, List.set_cons_succ]
     rfl
    refine one_ (i := 9) (N := none) (ob 10 1023) rfl rfl (by kernel_rfl) (by decide) (fun K hK => ?_)
    have cz0 : W8.cell? ⟨s, 0, none⟩ = some (.string (⟨#[]⟩ : ByteArray)) := (blk_cell BS.out 0).trans rfl
    have cz1 : W8.cell? ⟨s, 1, none⟩ = some (.string (⟨#[]⟩ : ByteArray)) := (blk_cell BS.out 1).trans rfl
    have cz2 : W8.cell? ⟨s, 2, none⟩ = some (.string (⟨#[]⟩ : ByteArray)) := (blk_cell BS.out 2).trans rfl
    have fz0 := blk_frozen BS.out 0
    have fz1 := blk_frozen BS.out 1
    have fz2 := blk_frozen BS.out 2
    refine skip_ (w1 := ?_) (by rfl) rfl ?_ ?_
    rotate_left
    ·go_simp
     rfl
    have h1 := HP.out.set BS.out GS.out 0 (.string (⟨#[116, 114, 97, 110, 115, 108, 97, 116, 105, 111, 110]⟩ : ByteArray))
    have k1 := blk_put (cs' := #[.string (⟨#[116, 114, 97, 110, 115, 108, 97, 116, 105, 111, 110]⟩ : ByteArray), .string (⟨#[]⟩ : ByteArray), .string (⟨#[]⟩ : ByteArray)]) BS.out 0 (.string (⟨#[116, 114, 97, 110, 115, 108, 97, 116, 105, 111, 110]⟩ : ByteArray)) rfl
    have h2 := h1.set k1 GS.out 1 (.string x.f2)
    have k2 := blk_put (cs' := #[.string (⟨#[116, 114, 97, 110, 115, 108, 97, 116, 105, 111, 110]⟩ : ByteArray), .string x.f2, .string (⟨#[]⟩ : ByteArray)]) k1 1 (.string x.f2) rfl
    have n1 := Aside0.mk (h2.set k2 GS.out 2 (.string t))
    have BO := Aside0.mk (blk_put (cs' := #[.string (⟨#[116, 114, 97, 110, 115, 108, 97, 116, 105, 111, 110]⟩ : ByteArray), .string x.f2, .string t]) k2 2 (.string t) rfl)
    have hxs := blk_ne BX.out BS.out (by decide)
    have n2 := Aside0.mk (blk_far (p := ⟨s, 2, none⟩) (blk_far (p := ⟨s, 1, none⟩) (blk_far (p := ⟨s, 0, none⟩) BX.out hxs (.string (⟨#[116, 114, 97, 110, 115, 108, 97, 116, 105, 111, 110]⟩ : ByteArray))) hxs (.string x.f2)) hxs (.string t))
    have n3 := Aside0.mk (blk_far (p := ⟨s, 2, none⟩) (blk_far (p := ⟨s, 1, none⟩) (blk_far (p := ⟨s, 0, none⟩) BK.out NE.out (.string (⟨#[116, 114, 97, 110, 115, 108, 97, 116, 105, 111, 110]⟩ : ByteArray))) NE.out (.string x.f2)) NE.out (.string t))
    clear HP BX BK BS h1 k1 h2 k2 hxs cz0 cz1 cz2 fz0 fz1 fz2
    have HP := n1
    have BX := n2
    have BK := n3
    clear n1 n2 n3
    generalize (((W8.setCell ⟨s, 0, none⟩ (.string (⟨#[116, 114, 97, 110, 115, 108, 97, 116, 105, 111, 110]⟩ : ByteArray))).setCell ⟨s, 1, none⟩ (.string x.f2)).setCell ⟨s, 2, none⟩ (.string t)) = W9 at HP BX BK BO ⊢
    refine hK.out _ _ ⟨(blk_cell BX.out 1), (blk_cell BX.out 2), (blk_cell BX.out 5), (blk_cell BX.out 6), (blk_cell BX.out 7), (blk_cell BX.out 8), (blk_cell BX.out 9), (blk_cell BX.out 10)⟩ (fun hHeld => ?_)
    clear hK K
    refine done_ (by kernel_rfl) ?_
    clear hHeld
    go_upto_region 19 with (fail)
    have y0 : W9.cell? ⟨g, 0, none⟩ = some (.slice A0 l0.length c0) := (blk_cell HP.out.Q 0).trans rfl
    have y1 : W9.cell? ⟨g, 1, none⟩ = some (.slice (some ad1) l1.length c1) := (blk_cell HP.out.Q 1).trans rfl
    have y2 : W9.cell? ⟨g, 2, none⟩ = some (.map (some b1)) := (blk_cell HP.out.Q 2).trans rfl
    have y3 : W9.cell? ⟨g, 3, none⟩ = some (.map (some b2)) := (blk_cell HP.out.Q 3).trans rfl
    have y4 : W9.cell? ⟨g, 4, none⟩ = some (.map (some b3)) := (blk_cell HP.out.Q 4).trans rfl
    have x0 : W9.cell? ⟨gx, 0, none⟩ = some (.string x.f0) := (blk_cell BX.out 0).trans rfl
    have x1 : W9.cell? ⟨gx, 1, none⟩ = some (.string x.f1) := (blk_cell BX.out 1).trans rfl
    have x2 : W9.cell? ⟨gx, 2, none⟩ = some (.string x.f2) := (blk_cell BX.out 2).trans rfl
    have x3 : W9.cell? ⟨gx, 3, none⟩ = some (.string x.f3) := (blk_cell BX.out 3).trans rfl
    have x4 : W9.cell? ⟨gx, 4, none⟩ = some (.int .i64 x.f4) := (blk_cell BX.out 4).trans rfl
    have x5 : W9.cell? ⟨gx, 5, none⟩ = some (.int .i64 x.f5.f0) := (blk_cell BX.out 5).trans rfl
    have x6 : W9.cell? ⟨gx, 6, none⟩ = some (.bool x.f5.f1) := (blk_cell BX.out 6).trans rfl
    have x7 : W9.cell? ⟨gx, 7, none⟩ = some (.int .i64 x.f5.f2) := (blk_cell BX.out 7).trans rfl
    have x8 : W9.cell? ⟨gx, 8, none⟩ = some (.string x.f5.f3) := (blk_cell BX.out 8).trans rfl
    have x9 : W9.cell? ⟨gx, 9, none⟩ = some (.slice A9 x.f5.f4.length c9) := (blk_cell BX.out 9).trans rfl
    have x10 : W9.cell? ⟨gx, 10, none⟩ = some (.slice A10 x.f5.f5.length c10) := (blk_cell BX.out 10).trans rfl
    have x11 : W9.cell? ⟨gx, 11, none⟩ = some (.string x.f6) := (blk_cell BX.out 11).trans rfl
    have x12 : W9.cell? ⟨gx, 12, none⟩ = some (.slice A12 x.f7.length c12) := (blk_cell BX.out 12).trans rfl
    have k0 : W9.cell? ⟨gk, 0, none⟩ = some (.string (⟨#[107, 101, 121]⟩ : ByteArray)) := (blk_cell BK.out 0).trans rfl
    have k1 : W9.cell? ⟨gk, 1, none⟩ = some (.string x.f2) := (blk_cell BK.out 1).trans rfl
    have k2 : W9.cell? ⟨gk, 2, none⟩ = some (.string x.f1) := (blk_cell BK.out 2).trans rfl
    have o0 : W9.cell? ⟨s, 0, none⟩ = some (.string (⟨#[116, 114, 97, 110, 115, 108, 97, 116, 105, 111, 110]⟩ : ByteArray)) := (blk_cell BO.out 0).trans rfl
    have o1 : W9.cell? ⟨s, 1, none⟩ = some (.string x.f2) := (blk_cell BO.out 1).trans rfl
    have o2 : W9.cell? ⟨s, 2, none⟩ = some (.string t) := (blk_cell BO.out 2).trans rfl
    have T1 := HC2.out
    obtain ⟨v1, hv1⟩ : ∃ v, (Mp.look ad x.f3).getD false = v := ⟨_, rfl⟩
    obtain ⟨v2, hv2⟩ : ∃ v, (Mp.look ks (pg_key, x.f2, x.f1)).getD false = v := ⟨_, rfl⟩
    obtain ⟨v3, hv3⟩ : ∃ v, (Mp.look ks (tr_key, x.f2, t)).getD false = v := ⟨_, rfl⟩
    have hl1 : ∀ m, (Instr.lookup 33 (.map (some b2)) (.string x.f3) false).run Tryd.prog (W9.drewN m) = .ok (.bool v1) (W9.drewN m) := fun m => by rw [← hv1]; exact lk1 (HP.out.drewN m).M2 _ HZ.out.2.2
    have hl2 : ∀ m, (Instr.lookup 46 (.map (some b3)) (.agg #[.string (⟨#[107, 101, 121]⟩ : ByteArray), .string x.f2, .string x.f1]) false).run Tryd.prog (W9.drewN m) = .ok (.bool v2) (W9.drewN m) := fun m => by rw [← hv2]; exact lk3 (HP.out.drewN m).M3 _ _ _ pg_keysize HZ.out.2.1 HZ.out.1
    have hl3 : ∀ m, (Instr.lookup 46 (.map (some b3)) (.agg #[.string (⟨#[116, 114, 97, 110, 115, 108, 97, 116, 105, 111, 110]⟩ : ByteArray), .string x.f2, .string t]) false).run Tryd.prog (W9.drewN m) = .ok (.bool v3) (W9.drewN m) := fun m => by rw [← hv3]; exact lk3 (HP.out.drewN m).M3 _ _ _ tr_keysize HZ.out.2.1 HTS.out
    rw [hv1, hv2, hv3] at T1
    clear hv1 hv2 hv3 HC2 HT
    cases v1
    case true =>
     simp only [Bool.true_or, Bool.false_or, Bool.or_true, if_true] at T1
     cases T1
     have n1 := Aside0.mk (HP.out.drew)
     have n2 := Aside0.mk (show (W9.drew).heap[gx]? = some (.cells #[.string x.f0, .string x.f1, .string x.f2, .string x.f3, .int .i64 x.f4, .int .i64 x.f5.f0, .bool x.f5.f1, .int .i64 x.f5.f2, .string x.f5.f3, .slice A9 x.f5.f4.length c9, .slice A10 x.f5.f5.length c10, .string x.f6, .slice A12 x.f7.length c12] 39 (0, 0)) from BX.out)
     have n3 := Aside0.mk (show (W9.drew).heap[gk]? = some (.cells #[.string (⟨#[107, 101, 121]⟩ : ByteArray), .string x.f2, .string x.f1] 60 (0, 0)) from BK.out)
     have n4 := Aside0.mk (show (W9.drew).heap[s]? = some (.cells #[.string (⟨#[116, 114, 97, 110, 115, 108, 97, 116, 105, 111, 110]⟩ : ByteArray), .string x.f2, .string t] 60 (0, 0)) from BO.out)
     clear HP BX BK BO
     have HP := n1
     have BX := n2
     have BK := n3
     have BO := n4
     clear n1 n2 n3 n4
     refine start_ (n := 24) (S := fun w' => w'.cell? ⟨g, 3, none⟩ = some (.map (some b2)) ∧ w'.cell? ⟨g, 4, none⟩ = some (.map (some b3)) ∧ w'.cell? ⟨gx, 3, none⟩ = some (.string x.f3) ∧ w'.cell? ⟨gk, 0, none⟩ = some (.string (⟨#[107, 101, 121]⟩ : ByteArray)) ∧ w'.cell? ⟨gk, 1, none⟩ = some (.string x.f2) ∧ w'.cell? ⟨gk, 2, none⟩ = some (.string x.f1) ∧ w'.cell? ⟨s, 0, none⟩ = some (.string (⟨#[116, 114, 97, 110, 115, 108, 97, 116, 105, 111, 110]⟩ : ByteArray)) ∧ w'.cell? ⟨s, 1, none⟩ = some (.string x.f2) ∧ w'.cell? ⟨s, 2, none⟩ = some (.string t) ∧ (Instr.lookup 33 (.map (some b2)) (.string x.f3) false).run Tryd.prog w' = .ok (.bool true) w' ∧ (Instr.lookup 46 (.map (some b3)) (.agg #[.string (⟨#[107, 101, 121]⟩ : ByteArray), .string x.f2, .string x.f1]) false).run Tryd.prog w' = .ok (.bool v2) w' ∧ (Instr.lookup 46 (.map (some b3)) (.agg #[.string (⟨#[116, 114, 97, 110, 115, 108, 97, 116, 105, 111, 110]⟩ : ByteArray), .string x.f2, .string t]) false).run Tryd.prog w' = .ok (.bool v3) w') (ds := []) #[false, false, false, false, false, false, false, false, false, false, false, false, false, false, false, false, false, false, false, false, false, false, false, false] (by kernel_rfl) rfl rfl ⟨(blk_cell HP.out.Q 3), (blk_cell HP.out.Q 4), (blk_cell BX.out 3), (blk_cell BK.out 0), (blk_cell BK.out 1), (blk_cell BK.out 2), (blk_cell BO.out 0), (blk_cell BO.out 1), (blk_cell BO.out 2), (hl1 1), (hl2 1), (hl3 1)⟩ (fun hHeld => ?_)
     clear hl1 hl2 hl3
     generalize W9.drew = W10 at HP BX BK BO hHeld ⊢
     refine pure_ (i := 0) (N := some 122) (v := ?_) (a' := ?_) (ob 24 1) rfl rfl (by kernel_rfl) (fun _ _ _ h => h) (Or.inl ⟨by rfl, ?_⟩) ?_ ?_
     rotate_left
     ·intro w'
      go_simp
      with_reducible rfl
     rotate_left
     ·simp only [Act.put, List.setIfInBounds_toArray, List.set_cons_zero, List.set_cons_succ, i64_w, i32_w]
      rfl
     refine pure_ (i := 1) (N := some 123) (v := ?_) (a' := ?_) (ob 24 3) rfl rfl (by kernel_rfl) (fun _ _ _ h => h) (Or.inl ⟨by rfl, ?_⟩) ?_ ?_
     rotate_left
     ·intro w'
      go_simp
      with_reducible rfl
     rotate_left
     ·simp only [Act.put, List.setIfInBounds_toArray, List.set_cons_zero, List.set_cons_succ, i64_w, i32_w]
      rfl
     refine pure_ (i := 2) (N := some 124) (v := ?_) (a' := ?_) (ob 24 7) rfl rfl (by kernel_rfl) (fun _ _ _ h => h) (Or.inl ⟨by rfl, ?_⟩) ?_ ?_
     rotate_left
     ·intro w'
      go_simp
      with_reducible rfl
     rotate_left
     ·simp only [Act.put, List.setIfInBounds_toArray, List.set_cons_zero, List.set_cons_succ, i64_w, i32_w]
      rfl
     refine pure_ (i := 4) (N := some 126) (v := ?_) (a' := ?_) (ob 24 23) rfl rfl (by kernel_rfl) (fun _ _ _ h => h) (Or.inl ⟨by rfl, ?_⟩) ?_ ?_
     rotate_left
     ·intro w'
      go_simp
      with_reducible rfl
     rotate_left
     ·simp only [Act.put, List.setIfInBounds_toArray, List.set_cons_zero, List.set_cons_succ, i64_w, i32_w]
      rfl
     refine take_ (i := 3) (N := some 125) (v := ?_) (a' := ?_) (ob 24 31) rfl rfl (by kernel_rfl) (fun _ _ _ h => h) (Or.inl ⟨by rfl, ?_⟩) hHeld ?_ ?_
     rotate_left
     ·rintro w' ⟨s0, s1, s2, s3, s4, s5, s6, s7, s8, s9, s10, s11⟩
      go_simp
      with_reducible rfl
     rotate_left
     ·simp only [Act.put, List.setIfInBounds_toArray, List.set_cons_zero, List.set_cons_succ, i64_w, i32_w]
      rfl
     refine take_ (i := 5) (N := some 127) (v := ?_) (a' := ?_) (ob 24 63) rfl rfl (by kernel_rfl) (fun _ _ _ h => h) (Or.inl ⟨by rfl, ?_⟩) hHeld ?_ ?_
     rotate_left
     ·rintro w' ⟨s0, s1, s2, s3, s4, s5, s6, s7, s8, s9, s10, s11⟩
      go_simp
      with_reducible rfl
     rotate_left
     ·simp only [Act.put, List.setIfInBounds_toArray, List.set_cons_zero, List.set_cons_succ, i64_w, i32_w]
      rfl
     refine take_ (i := 6) (N := some 128) (v := ?_) (a' := ?_) (ob 24 127) rfl rfl (by kernel_rfl) (fun _ _ _ h => h) (Or.inl ⟨by rfl, ?_⟩) hHeld ?_ ?_
     rotate_left
     ·rintro w' ⟨s0, s1, s2, s3, s4, s5, s6, s7, s8, s9, s10, s11⟩
      go_simp
      with_reducible rfl
     rotate_left
     ·simp only [Act.put, List.setIfInBounds_toArray, List.set_cons_zero, List.set_cons_succ, i64_w, i32_w]
      rfl
     refine pure_ (i := 7) (N := some 129) (v := ?_) (a' := ?_) (ob 24 255) rfl rfl (by kernel_rfl) (fun _ _ _ h => h) (Or.inl ⟨by rfl, ?_⟩) ?_ ?_
     rotate_left
     ·intro w'
      go_simp
      with_reducible rfl
     rotate_left
     ·simp only [Act.put, List.setIfInBounds_toArray, List.set_cons_zero, List.set_cons_succ, i64_w, i32_w]
      rfl
     refine pure_ (i := 8) (N := some 130) (v := undef) (a' := ?_) (ob 24 511) rfl rfl (by kernel_rfl) (fun _ _ _ h => h) (Or.inr ⟨by rfl, rfl⟩) ?_ ?_
     rotate_left
     ·simp only [Act.put, List.setIfInBounds_toArray, List.set_cons_zero, List.set_cons_succ, i64_w, i32_w]
      rfl
     refine pure_ (i := 9) (N := some 131) (v := undef) (a' := ?_) (ob 24 1023) rfl rfl (by kernel_rfl) (fun _ _ _ h => h) (Or.inr ⟨by rfl, rfl⟩) ?_ ?_
     rotate_left
     ·simp only [Act.put, List.setIfInBounds_toArray, List.set_cons_zero, List.set_cons_succ, i64_w, i32_w]
      rfl
     refine pure_ (i := 10) (N := some 132) (v := undef) (a' := ?_) (ob 24 2047) rfl rfl (by kernel_rfl) (fun _ _ _ h => h) (Or.inr ⟨by rfl, rfl⟩) ?_ ?_
     rotate_left
     ·simp only [Act.put, List.setIfInBounds_toArray, List.set_cons_zero, List.set_cons_succ, i64_w, i32_w]
      rfl
     refine pure_ (i := 11) (N := some 133) (v := undef) (a' := ?_) (ob 24 4095) rfl rfl (by kernel_rfl) (fun _ _ _ h => h) (Or.inr ⟨by rfl, rfl⟩) ?_ ?_
     rotate_left
     ·simp only [Act.put, List.setIfInBounds_toArray, List.set_cons_zero, List.set_cons_succ, i64_w, i32_w]
      rfl
     refine pure_ (i := 12) (N := some 134) (v := undef) (a' := ?_) (ob 24 8191) rfl rfl (by kernel_rfl) (fun _ _ _ h => h) (Or.inr ⟨by rfl, rfl⟩) ?_ ?_
     rotate_left
     ·simp only [Act.put, List.setIfInBounds_toArray, List.set_cons_zero, List.set_cons_succ, i64_w, i32_w]
      rfl
     refine pure_ (i := 13) (N := some 135) (v := undef) (a' := ?_) (ob 24 16383) rfl rfl (by kernel_rfl) (fun _ _ _ h => h) (Or.inr ⟨by rfl, rfl⟩) ?_ ?_
     rotate_left
     ·simp only [Act.put, List.setIfInBounds_toArray, List.set_cons_zero, List.set_cons_succ, i64_w, i32_w]
      rfl
     refine pure_ (i := 14) (N := some 136) (v := ?_) (a' := ?_) (ob 24 32767) rfl rfl (by kernel_rfl) (fun _ _ _ h => h) (Or.inl ⟨by rfl, ?_⟩) ?_ ?_
     rotate_left
     ·intro w'
      go_simp
      with_reducible rfl
     rotate_left
     ·simp only [Act.put, List.setIfInBounds_toArray, List.set_cons_zero, List.set_cons_succ, i64_w, i32_w]
      rfl
     refine pure_ (i := 15) (N := some 137) (v := ?_) (a' := ?_) (ob 24 65535) rfl rfl (by kernel_rfl) (fun _ _ _ h => h) (Or.inl ⟨by rfl, ?_⟩) ?_ ?_
     rotate_left
     ·intro w'
      go_simp
      with_reducible rfl
     rotate_left
     ·simp only [Act.put, List.setIfInBounds_toArray, List.set_cons_zero, List.set_cons_succ, i64_w, i32_w]
      rfl
     refine pure_ (i := 16) (N := some 138) (v := undef) (a' := ?_) (ob 24 131071) rfl rfl (by kernel_rfl) (fun _ _ _ h => h) (Or.inr ⟨by rfl, rfl⟩) ?_ ?_
     rotate_left
     ·simp only [Act.put, List.setIfInBounds_toArray, List.set_cons_zero, List.set_cons_succ, i64_w, i32_w]
      rfl
     refine pure_ (i := 17) (N := some 139) (v := undef) (a' := ?_) (ob 24 262143) rfl rfl (by kernel_rfl) (fun _ _ _ h => h) (Or.inr ⟨by rfl, rfl⟩) ?_ ?_
     rotate_left
     ·simp only [Act.put, List.setIfInBounds_toArray, List.set_cons_zero, List.set_cons_succ, i64_w, i32_w]
      rfl
     refine pure_ (i := 18) (N := some 140) (v := undef) (a' := ?_) (ob 24 524287) rfl rfl (by kernel_rfl) (fun _ _ _ h => h) (Or.inr ⟨by rfl, rfl⟩) ?_ ?_
     rotate_left
     ·simp only [Act.put, List.setIfInBounds_toArray, List.set_cons_zero, List.set_cons_succ, i64_w, i32_w]
      rfl
     refine pure_ (i := 19) (N := some 141) (v := undef) (a' := ?_) (ob 24 1048575) rfl rfl (by kernel_rfl) (fun _ _ _ h => h) (Or.inr ⟨by rfl, rfl⟩) ?_ ?_
     rotate_left
     ·simp only [Act.put, List.setIfInBounds_toArray, List.set_cons_zero, List.set_cons_succ, i64_w, i32_w]
      rfl
     refine pure_ (i := 20) (N := some 142) (v := undef) (a' := ?_) (ob 24 2097151) rfl rfl (by kernel_rfl) (fun _ _ _ h => h) (Or.inr ⟨by rfl, rfl⟩) ?_ ?_
     rotate_left
     ·simp only [Act.put, List.setIfInBounds_toArray, List.set_cons_zero, List.set_cons_succ, i64_w, i32_w]
      rfl
     refine pure_ (i := 21) (N := some 143) (v := undef) (a' := ?_) (ob 24 4194303) rfl rfl (by kernel_rfl) (fun _ _ _ h => h) (Or.inr ⟨by rfl, rfl⟩) ?_ ?_
     rotate_left
     ·simp only [Act.put, List.setIfInBounds_toArray, List.set_cons_zero, List.set_cons_succ, i64_w, i32_w]
      rfl
     refine pure_ (i := 22) (N := some 144) (v := ?_) (a' := ?_) (ob 24 8388607) rfl rfl (by kernel_rfl) (fun _ _ _ h => h) (Or.inl ⟨by rfl, ?_⟩) ?_ ?_
     rotate_left
     ·intro w'
      go_simp
      with_reducible rfl
     rotate_left
     ·simp only [Act.put, List.setIfInBounds_toArray, List.set_cons_zero, List.set_cons_succ, i64_w, i32_w]
      rfl
     refine pure_ (i := 23) (N := some 121) (v := ?_) (a' := ?_) (ob 24 16777215) rfl rfl (by kernel_rfl) (fun _ _ _ h => h) (Or.inl ⟨by rfl, ?_⟩) ?_ ?_
     rotate_left
     ·intro w'
      go_simp
      with_reducible rfl
     rotate_left
     ·simp only [Act.put, List.setIfInBounds_toArray, List.set_cons_zero, List.set_cons_succ, i64_w, i32_w]
      rfl
     refine done_ (by kernel_rfl) ?_
     go_wp2_with fail
     go_ret
     exact ⟨rfl, HP.out⟩
    cases v2
    case true =>
     simp only [Bool.true_or, Bool.false_or, Bool.or_true, if_true] at T1
     cases T1
     have n1 := Aside0.mk (HP.out.drew)
     have n2 := Aside0.mk (show (W9.drew).heap[gx]? = some (.cells #[.string x.f0, .string x.f1, .string x.f2, .string x.f3, .int .i64 x.f4, .int .i64 x.f5.f0, .bool x.f5.f1, .int .i64 x.f5.f2, .string x.f5.f3, .slice A9 x.f5.f4.length c9, .slice A10 x.f5.f5.length c10, .string x.f6, .slice A12 x.f7.length c12] 39 (0, 0)) from BX.out)
     have n3 := Aside0.mk (show (W9.drew).heap[gk]? = some (.cells #[.string (⟨#[107, 101, 121]⟩ : ByteArray), .string x.f2, .string x.f1] 60 (0, 0)) from BK.out)
     have n4 := Aside0.mk (show (W9.drew).heap[s]? = some (.cells #[.string (⟨#[116, 114, 97, 110, 115, 108, 97, 116, 105, 111, 110]⟩ : ByteArray), .string x.f2, .string t] 60 (0, 0)) from BO.out)
     clear HP BX BK BO
     have HP := n1
     have BX := n2
     have BK := n3
     have BO := n4
     clear n1 n2 n3 n4
     refine start_ (n := 24) (S := fun w' => w'.cell? ⟨g, 3, none⟩ = some (.map (some b2)) ∧ w'.cell? ⟨g, 4, none⟩ = some (.map (some b3)) ∧ w'.cell? ⟨gx, 3, none⟩ = some (.string x.f3) ∧ w'.cell? ⟨gk, 0, none⟩ = some (.string (⟨#[107, 101, 121]⟩ : ByteArray)) ∧ w'.cell? ⟨gk, 1, none⟩ = some (.string x.f2) ∧ w'.cell? ⟨gk, 2, none⟩ = some (.string x.f1) ∧ w'.cell? ⟨s, 0, none⟩ = some (.string (⟨#[116, 114, 97, 110, 115, 108, 97, 116, 105, 111, 110]⟩ : ByteArray)) ∧ w'.cell? ⟨s, 1, none⟩ = some (.string x.f2) ∧ w'.cell? ⟨s, 2, none⟩ = some (.string t) ∧ (Instr.lookup 33 (.map (some b2)) (.string x.f3) false).run Tryd.prog w' = .ok (.bool false) w' ∧ (Instr.lookup 46 (.map (some b3)) (.agg #[.string (⟨#[107, 101, 121]⟩ : ByteArray), .string x.f2, .string x.f1]) false).run Tryd.prog w' = .ok (.bool true) w' ∧ (Instr.lookup 46 (.map (some b3)) (.agg #[.string (⟨#[116, 114, 97, 110, 115, 108, 97, 116, 105, 111, 110]⟩ : ByteArray), .string x.f2, .string t]) false).run Tryd.prog w' = .ok (.bool v3) w') (ds := []) #[false, false, false, false, false, false, false, false, false, false, false, false, false, false, false, false, false, false, false, false, false, false, false, false] (by kernel_rfl) rfl rfl ⟨(blk_cell HP.out.Q 3), (blk_cell HP.out.Q 4), (blk_cell BX.out 3), (blk_cell BK.out 0), (blk_cell BK.out 1), (blk_cell BK.out 2), (blk_cell BO.out 0), (blk_cell BO.out 1), (blk_cell BO.out 2), (hl1 1), (hl2 1), (hl3 1)⟩ (fun hHeld => ?_)
     clear hl1 hl2 hl3
     generalize W9.drew = W10 at HP BX BK BO hHeld ⊢
     refine pure_ (i := 0) (N := some 122) (v := ?_) (a' := ?_) (ob 24 1) rfl rfl (by kernel_rfl) (fun _ _ _ h => h) (Or.inl ⟨by rfl, ?_⟩) ?_ ?_
     rotate_left
     ·intro w'
      go_simp
      with_reducible rfl
     rotate_left
     ·simp only [Act.put, List.setIfInBounds_toArray, List.set_cons_zero, List.set_cons_succ, i64_w, i32_w]
      rfl
     refine pure_ (i := 1) (N := some 123) (v := ?_) (a' := ?_) (ob 24 3) rfl rfl (by kernel_rfl) (fun _ _ _ h => h) (Or.inl ⟨by rfl, ?_⟩) ?_ ?_
     rotate_left
     ·intro w'
      go_simp
      with_reducible rfl
     rotate_left
     ·simp only [Act.put, List.setIfInBounds_toArray, List.set_cons_zero, List.set_cons_succ, i64_w, i32_w]
      rfl
     refine pure_ (i := 2) (N := some 124) (v := ?_) (a' := ?_) (ob 24 7) rfl rfl (by kernel_rfl) (fun _ _ _ h => h) (Or.inl ⟨by rfl, ?_⟩) ?_ ?_
     rotate_left
     ·intro w'
      go_simp
      with_reducible rfl
     rotate_left
     ·simp only [Act.put, List.setIfInBounds_toArray, List.set_cons_zero, List.set_cons_succ, i64_w, i32_w]
      rfl
     refine pure_ (i := 4) (N := some 126) (v := ?_) (a' := ?_) (ob 24 23) rfl rfl (by kernel_rfl) (fun _ _ _ h => h) (Or.inl ⟨by rfl, ?_⟩) ?_ ?_
     rotate_left
     ·intro w'
      go_simp
      with_reducible rfl
     rotate_left
     ·simp only [Act.put, List.setIfInBounds_toArray, List.set_cons_zero, List.set_cons_succ, i64_w, i32_w]
      rfl
     refine take_ (i := 3) (N := some 125) (v := ?_) (a' := ?_) (ob 24 31) rfl rfl (by kernel_rfl) (fun _ _ _ h => h) (Or.inl ⟨by rfl, ?_⟩) hHeld ?_ ?_
     rotate_left
     ·rintro w' ⟨s0, s1, s2, s3, s4, s5, s6, s7, s8, s9, s10, s11⟩
      go_simp
      with_reducible rfl
     rotate_left
     ·simp only [Act.put, List.setIfInBounds_toArray, List.set_cons_zero, List.set_cons_succ, i64_w, i32_w]
      rfl
     refine take_ (i := 5) (N := some 127) (v := ?_) (a' := ?_) (ob 24 63) rfl rfl (by kernel_rfl) (fun _ _ _ h => h) (Or.inl ⟨by rfl, ?_⟩) hHeld ?_ ?_
     rotate_left
     ·rintro w' ⟨s0, s1, s2, s3, s4, s5, s6, s7, s8, s9, s10, s11⟩
      go_simp
      with_reducible rfl
     rotate_left
     ·simp only [Act.put, List.setIfInBounds_toArray, List.set_cons_zero, List.set_cons_succ, i64_w, i32_w]
      rfl
     refine take_ (i := 6) (N := some 128) (v := ?_) (a' := ?_) (ob 24 127) rfl rfl (by kernel_rfl) (fun _ _ _ h => h) (Or.inl ⟨by rfl, ?_⟩) hHeld ?_ ?_
     rotate_left
     ·rintro w' ⟨s0, s1, s2, s3, s4, s5, s6, s7, s8, s9, s10, s11⟩
      go_simp
      with_reducible rfl
     rotate_left
     ·simp only [Act.put, List.setIfInBounds_toArray, List.set_cons_zero, List.set_cons_succ, i64_w, i32_w]
      rfl
     refine pure_ (i := 7) (N := some 129) (v := ?_) (a' := ?_) (ob 24 255) rfl rfl (by kernel_rfl) (fun _ _ _ h => h) (Or.inl ⟨by rfl, ?_⟩) ?_ ?_
     rotate_left
     ·intro w'
      go_simp
      with_reducible rfl
     rotate_left
     ·simp only [Act.put, List.setIfInBounds_toArray, List.set_cons_zero, List.set_cons_succ, i64_w, i32_w]
      rfl
     refine pure_ (i := 8) (N := some 130) (v := ?_) (a' := ?_) (ob 24 511) rfl rfl (by kernel_rfl) (fun _ _ _ h => h) (Or.inl ⟨by rfl, ?_⟩) ?_ ?_
     rotate_left
     ·intro w'
      go_simp
      with_reducible rfl
     rotate_left
     ·simp only [Act.put, List.setIfInBounds_toArray, List.set_cons_zero, List.set_cons_succ, i64_w, i32_w]
      rfl
     refine pure_ (i := 9) (N := some 131) (v := ?_) (a' := ?_) (ob 24 1023) rfl rfl (by kernel_rfl) (fun _ _ _ h => h) (Or.inl ⟨by rfl, ?_⟩) ?_ ?_
     rotate_left
     ·intro w'
      go_simp
      with_reducible rfl
     rotate_left
     ·simp only [Act.put, List.setIfInBounds_toArray, List.set_cons_zero, List.set_cons_succ, i64_w, i32_w]
      rfl
     refine pure_ (i := 10) (N := some 132) (v := ?_) (a' := ?_) (ob 24 2047) rfl rfl (by kernel_rfl) (fun _ _ _ h => h) (Or.inl ⟨by rfl, ?_⟩) ?_ ?_
     rotate_left
     ·intro w'
      go_simp
      with_reducible rfl
     rotate_left
     ·simp only [Act.put, List.setIfInBounds_toArray, List.set_cons_zero, List.set_cons_succ, i64_w, i32_w]
      rfl
     refine take_ (i := 11) (N := some 133) (v := ?_) (a' := ?_) (ob 24 4095) rfl rfl (by kernel_rfl) (fun _ _ _ h => h) (Or.inl ⟨by rfl, ?_⟩) hHeld ?_ ?_
     rotate_left
     ·rintro w' ⟨s0, s1, s2, s3, s4, s5, s6, s7, s8, s9, s10, s11⟩
      go_simp
      with_reducible rfl
     rotate_left
     ·simp only [Act.put, List.setIfInBounds_toArray, List.set_cons_zero, List.set_cons_succ, i64_w, i32_w]
      rfl
     refine take_ (i := 12) (N := some 134) (v := ?_) (a' := ?_) (ob 24 8191) rfl rfl (by kernel_rfl) (fun _ _ _ h => h) (Or.inl ⟨by rfl, ?_⟩) hHeld ?_ ?_
     rotate_left
     ·rintro w' ⟨s0, s1, s2, s3, s4, s5, s6, s7, s8, s9, s10, s11⟩
      go_simp
      with_reducible rfl
     rotate_left
     ·simp only [Act.put, List.setIfInBounds_toArray, List.set_cons_zero, List.set_cons_succ, i64_w, i32_w]
      rfl
     refine take_ (i := 13) (N := some 135) (v := ?_) (a' := ?_) (ob 24 16383) rfl rfl (by kernel_rfl) (fun _ _ _ h => h) (Or.inl ⟨by rfl, ?_⟩) hHeld ?_ ?_
     rotate_left
     ·rintro w' ⟨s0, s1, s2, s3, s4, s5, s6, s7, s8, s9, s10, s11⟩
      go_simp
      with_reducible rfl
     rotate_left
     ·simp only [Act.put, List.setIfInBounds_toArray, List.set_cons_zero, List.set_cons_succ, i64_w, i32_w]
      rfl
     refine pure_ (i := 14) (N := some 136) (v := ?_) (a' := ?_) (ob 24 32767) rfl rfl (by kernel_rfl) (fun _ _ _ h => h) (Or.inl ⟨by rfl, ?_⟩) ?_ ?_
     rotate_left
     ·intro w'
      go_simp
      with_reducible rfl
     rotate_left
     ·simp only [Act.put, List.setIfInBounds_toArray, List.set_cons_zero, List.set_cons_succ, i64_w, i32_w]
      rfl
     refine pure_ (i := 15) (N := some 137) (v := ?_) (a' := ?_) (ob 24 65535) rfl rfl (by kernel_rfl) (fun _ _ _ h => h) (Or.inl ⟨by rfl, ?_⟩) ?_ ?_
     rotate_left
     ·intro w'
      go_simp
      with_reducible rfl
     rotate_left
     ·simp only [Act.put, List.setIfInBounds_toArray, List.set_cons_zero, List.set_cons_succ, i64_w, i32_w]
      rfl
     refine pure_ (i := 16) (N := some 138) (v := undef) (a' := ?_) (ob 24 131071) rfl rfl (by kernel_rfl) (fun _ _ _ h => h) (Or.inr ⟨by rfl, rfl⟩) ?_ ?_
     rotate_left
     ·simp only [Act.put, List.setIfInBounds_toArray, List.set_cons_zero, List.set_cons_succ, i64_w, i32_w]
      rfl
     refine pure_ (i := 17) (N := some 139) (v := undef) (a' := ?_) (ob 24 262143) rfl rfl (by kernel_rfl) (fun _ _ _ h => h) (Or.inr ⟨by rfl, rfl⟩) ?_ ?_
     rotate_left
     ·simp only [Act.put, List.setIfInBounds_toArray, List.set_cons_zero, List.set_cons_succ, i64_w, i32_w]
      rfl
     refine pure_ (i := 18) (N := some 140) (v := undef) (a' := ?_) (ob 24 524287) rfl rfl (by kernel_rfl) (fun _ _ _ h => h) (Or.inr ⟨by rfl, rfl⟩) ?_ ?_
     rotate_left
     ·simp only [Act.put, List.setIfInBounds_toArray, List.set_cons_zero, List.set_cons_succ, i64_w, i32_w]
      rfl
     refine pure_ (i := 19) (N := some 141) (v := undef) (a' := ?_) (ob 24 1048575) rfl rfl (by kernel_rfl) (fun _ _ _ h => h) (Or.inr ⟨by rfl, rfl⟩) ?_ ?_
     rotate_left
     ·simp only [Act.put, List.setIfInBounds_toArray, List.set_cons_zero, List.set_cons_succ, i64_w, i32_w]
      rfl
     refine pure_ (i := 20) (N := some 142) (v := undef) (a' := ?_) (ob 24 2097151) rfl rfl (by kernel_rfl) (fun _ _ _ h => h) (Or.inr ⟨by rfl, rfl⟩) ?_ ?_
     rotate_left
     ·simp only [Act.put, List.setIfInBounds_toArray, List.set_cons_zero, List.set_cons_succ, i64_w, i32_w]
      rfl
     refine pure_ (i := 21) (N := some 143) (v := undef) (a' := ?_) (ob 24 4194303) rfl rfl (by kernel_rfl) (fun _ _ _ h => h) (Or.inr ⟨by rfl, rfl⟩) ?_ ?_
     rotate_left
     ·simp only [Act.put, List.setIfInBounds_toArray, List.set_cons_zero, List.set_cons_succ, i64_w, i32_w]
      rfl
     refine pure_ (i := 22) (N := some 144) (v := ?_) (a' := ?_) (ob 24 8388607) rfl rfl (by kernel_rfl) (fun _ _ _ h => h) (Or.inl ⟨by rfl, ?_⟩) ?_ ?_
     rotate_left
     ·intro w'
      go_simp
      with_reducible rfl
     rotate_left
     ·simp only [Act.put, List.setIfInBounds_toArray, List.set_cons_zero, List.set_cons_succ, i64_w, i32_w]
      rfl
     refine pure_ (i := 23) (N := some 121) (v := ?_) (a' := ?_) (ob 24 16777215) rfl rfl (by kernel_rfl) (fun _ _ _ h => h) (Or.inl ⟨by rfl, ?_⟩) ?_ ?_
     rotate_left
     ·intro w'
      go_simp
      with_reducible rfl
     rotate_left
     ·simp only [Act.put, List.setIfInBounds_toArray, List.set_cons_zero, List.set_cons_succ, i64_w, i32_w]
      rfl
     refine done_ (by kernel_rfl) ?_
     go_wp2_with fail
     go_ret
     exact ⟨rfl, HP.out⟩
    cases v3
    case true =>
     simp only [Bool.true_or, Bool.false_or, Bool.or_true, if_true] at T1
     cases T1
     have n1 := Aside0.mk (HP.out.drew)
     have n2 := Aside0.mk (show (W9.drew).heap[gx]? = some (.cells #[.string x.f0, .string x.f1, .string x.f2, .string x.f3, .int .i64 x.f4, .int .i64 x.f5.f0, .bool x.f5.f1, .int .i64 x.f5.f2, .string x.f5.f3, .slice A9 x.f5.f4.length c9, .slice A10 x.f5.f5.length c10, .string x.f6, .slice A12 x.f7.length c12] 39 (0, 0)) from BX.out)
     have n3 := Aside0.mk (show (W9.drew).heap[gk]? = some (.cells #[.string (⟨#[107, 101, 121]⟩ : ByteArray), .string x.f2, .string x.f1] 60 (0, 0)) from BK.out)
     have n4 := Aside0.mk (show (W9.drew).heap[s]? = some (.cells #[.string (⟨#[116, 114, 97, 110, 115, 108, 97, 116, 105, 111, 110]⟩ : ByteArray), .string x.f2, .string t] 60 (0, 0)) from BO.out)
     clear HP BX BK BO
     have HP := n1
     have BX := n2
     have BK := n3
     have BO := n4
     clear n1 n2 n3 n4
     refine start_ (n := 24) (S := fun w' => w'.cell? ⟨g, 3, none⟩ = some (.map (some b2)) ∧ w'.cell? ⟨g, 4, none⟩ = some (.map (some b3)) ∧ w'.cell? ⟨gx, 3, none⟩ = some (.string x.f3) ∧ w'.cell? ⟨gk, 0, none⟩ = some (.string (⟨#[107, 101, 121]⟩ : ByteArray)) ∧ w'.cell? ⟨gk, 1, none⟩ = some (.string x.f2) ∧ w'.cell? ⟨gk, 2, none⟩ = some (.string x.f1) ∧ w'.cell? ⟨s, 0, none⟩ = some (.string (⟨#[116, 114, 97, 110, 115, 108, 97, 116, 105, 111, 110]⟩ : ByteArray)) ∧ w'.cell? ⟨s, 1, none⟩ = some (.string x.f2) ∧ w'.cell? ⟨s, 2, none⟩ = some (.string t) ∧ (Instr.lookup 33 (.map (some b2)) (.string x.f3) false).run Tryd.prog w' = .ok (.bool false) w' ∧ (Instr.lookup 46 (.map (some b3)) (.agg #[.string (⟨#[107, 101, 121]⟩ : ByteArray), .string x.f2, .string x.f1]) false).run Tryd.prog w' = .ok (.bool false) w' ∧ (Instr.lookup 46 (.map (some b3)) (.agg #[.string (⟨#[116, 114, 97, 110, 115, 108, 97, 116, 105, 111, 110]⟩ : ByteArray), .string x.f2, .string t]) false).run Tryd.prog w' = .ok (.bool true) w') (ds := []) #[false, false, false, false, false, false, false, false, false, false, false, false, false, false, false, false, false, false, false, false, false, false, false, false] (by kernel_rfl) rfl rfl ⟨(blk_cell HP.out.Q 3), (blk_cell HP.out.Q 4), (blk_cell BX.out 3), (blk_cell BK.out 0), (blk_cell BK.out 1), (blk_cell BK.out 2), (blk_cell BO.out 0), (blk_cell BO.out 1), (blk_cell BO.out 2), (hl1 1), (hl2 1), (hl3 1)⟩ (fun hHeld => ?_)
     clear hl1 hl2 hl3
     generalize W9.drew = W10 at HP BX BK BO hHeld ⊢
     refine pure_ (i := 0) (N := some 122) (v := ?_) (a' := ?_) (ob 24 1) rfl rfl (by kernel_rfl) (fun _ _ _ h => h) (Or.inl ⟨by rfl, ?_⟩) ?_ ?_
     rotate_left
     ·intro w'
      go_simp
      with_reducible rfl
     rotate_left
     ·simp only [Act.put, List.setIfInBounds_toArray, List.set_cons_zero, List.set_cons_succ, i64_w, i32_w]
      rfl
     refine pure_ (i := 1) (N := some 123) (v := ?_) (a' := ?_) (ob 24 3) rfl rfl (by kernel_rfl) (fun _ _ _ h => h) (Or.inl ⟨by rfl, ?_⟩) ?_ ?_
     rotate_left
     ·intro w'
      go_simp
      with_reducible rfl
     rotate_left
     ·simp only [Act.put, List.setIfInBounds_toArray, List.set_cons_zero, List.set_cons_succ, i64_w, i32_w]
      rfl
     refine pure_ (i := 2) (N := some 124) (v := ?_) (a' := ?_) (ob 24 7) rfl rfl (by kernel_rfl) (fun _ _ _ h => h) (Or.inl ⟨by rfl, ?_⟩) ?_ ?_
     rotate_left
     ·intro w'
      go_simp
      with_reducible rfl
     rotate_left
     ·simp only [Act.put, List.setIfInBounds_toArray, List.set_cons_zero, List.set_cons_succ, i64_w, i32_w]
      rfl
     refine pure_ (i := 4) (N := some 126) (v := ?_) (a' := ?_) (ob 24 23) rfl rfl (by kernel_rfl) (fun _ _ _ h => h) (Or.inl ⟨by rfl, ?_⟩) ?_ ?_
     rotate_left
     ·intro w'
      go_simp
      with_reducible rfl
     rotate_left
     ·simp only [Act.put, List.setIfInBounds_toArray, List.set_cons_zero, List.set_cons_succ, i64_w, i32_w]
      rfl
     refine take_ (i := 3) (N := some 125) (v := ?_) (a' := ?_) (ob 24 31) rfl rfl (by kernel_rfl) (fun _ _ _ h => h) (Or.inl ⟨by rfl, ?_⟩) hHeld ?_ ?_
     rotate_left
     ·rintro w' ⟨s0, s1, s2, s3, s4, s5, s6, s7, s8, s9, s10, s11⟩
      go_simp
      with_reducible rfl
     rotate_left
     ·simp only [Act.put, List.setIfInBounds_toArray, List.set_cons_zero, List.set_cons_succ, i64_w, i32_w]
      rfl
     refine take_ (i := 5) (N := some 127) (v := ?_) (a' := ?_) (ob 24 63) rfl rfl (by kernel_rfl) (fun _ _ _ h => h) (Or.inl ⟨by rfl, ?_⟩) hHeld ?_ ?_
     rotate_left
     ·rintro w' ⟨s0, s1, s2, s3, s4, s5, s6, s7, s8, s9, s10, s11⟩
      go_simp
      with_reducible rfl
     rotate_left
     ·simp only [Act.put, List.setIfInBounds_toArray, List.set_cons_zero, List.set_cons_succ, i64_w, i32_w]
      rfl
     refine take_ (i := 6) (N := some 128) (v := ?_) (a' := ?_) (ob 24 127) rfl rfl (by kernel_rfl) (fun _ _ _ h => h) (Or.inl ⟨by rfl, ?_⟩) hHeld ?_ ?_
     rotate_left
     ·rintro w' ⟨s0, s1, s2, s3, s4, s5, s6, s7, s8, s9, s10, s11⟩
      go_simp
      with_reducible rfl
     rotate_left
     ·simp only [Act.put, List.setIfInBounds_toArray, List.set_cons_zero, List.set_cons_succ, i64_w, i32_w]
      rfl
     refine pure_ (i := 7) (N := some 129) (v := ?_) (a' := ?_) (ob 24 255) rfl rfl (by kernel_rfl) (fun _ _ _ h => h) (Or.inl ⟨by rfl, ?_⟩) ?_ ?_
     rotate_left
     ·intro w'
      go_simp
      with_reducible rfl
     rotate_left
     ·simp only [Act.put, List.setIfInBounds_toArray, List.set_cons_zero, List.set_cons_succ, i64_w, i32_w]
      rfl
     refine pure_ (i := 8) (N := some 130) (v := ?_) (a' := ?_) (ob 24 511) rfl rfl (by kernel_rfl) (fun _ _ _ h => h) (Or.inl ⟨by rfl, ?_⟩) ?_ ?_
     rotate_left
     ·intro w'
      go_simp
      with_reducible rfl
     rotate_left
     ·simp only [Act.put, List.setIfInBounds_toArray, List.set_cons_zero, List.set_cons_succ, i64_w, i32_w]
      rfl
     refine pure_ (i := 9) (N := some 131) (v := ?_) (a' := ?_) (ob 24 1023) rfl rfl (by kernel_rfl) (fun _ _ _ h => h) (Or.inl ⟨by rfl, ?_⟩) ?_ ?_
     rotate_left
     ·intro w'
      go_simp
      with_reducible rfl
     rotate_left
     ·simp only [Act.put, List.setIfInBounds_toArray, List.set_cons_zero, List.set_cons_succ, i64_w, i32_w]
      rfl
     refine pure_ (i := 10) (N := some 132) (v := ?_) (a' := ?_) (ob 24 2047) rfl rfl (by kernel_rfl) (fun _ _ _ h => h) (Or.inl ⟨by rfl, ?_⟩) ?_ ?_
     rotate_left
     ·intro w'
      go_simp
      with_reducible rfl
     rotate_left
     ·simp only [Act.put, List.setIfInBounds_toArray, List.set_cons_zero, List.set_cons_succ, i64_w, i32_w]
      rfl
     refine take_ (i := 11) (N := some 133) (v := ?_) (a' := ?_) (ob 24 4095) rfl rfl (by kernel_rfl) (fun _ _ _ h => h) (Or.inl ⟨by rfl, ?_⟩) hHeld ?_ ?_
     rotate_left
     ·rintro w' ⟨s0, s1, s2, s3, s4, s5, s6, s7, s8, s9, s10, s11⟩
      go_simp
      with_reducible rfl
     rotate_left
     ·simp only [Act.put, List.setIfInBounds_toArray, List.set_cons_zero, List.set_cons_succ, i64_w, i32_w]
      rfl
     refine take_ (i := 12) (N := some 134) (v := ?_) (a' := ?_) (ob 24 8191) rfl rfl (by kernel_rfl) (fun _ _ _ h => h) (Or.inl ⟨by rfl, ?_⟩) hHeld ?_ ?_
     rotate_left
     ·rintro w' ⟨s0, s1, s2, s3, s4, s5, s6, s7, s8, s9, s10, s11⟩
      go_simp
      with_reducible rfl
     rotate_left
     ·simp only [Act.put, List.setIfInBounds_toArray, List.set_cons_zero, List.set_cons_succ, i64_w, i32_w]
      rfl
     refine take_ (i := 13) (N := some 135) (v := ?_) (a' := ?_) (ob 24 16383) rfl rfl (by kernel_rfl) (fun _ _ _ h => h) (Or.inl ⟨by rfl, ?_⟩) hHeld ?_ ?_
     rotate_left
     ·rintro w' ⟨s0, s1, s2, s3, s4, s5, s6, s7, s8, s9, s10, s11⟩
      go_simp
      with_reducible rfl
     rotate_left
     ·simp only [Act.put, List.setIfInBounds_toArray, List.set_cons_zero, List.set_cons_succ, i64_w, i32_w]
      rfl
     refine pure_ (i := 14) (N := some 136) (v := ?_) (a' := ?_) (ob 24 32767) rfl rfl (by kernel_rfl) (fun _ _ _ h => h) (Or.inl ⟨by rfl, ?_⟩) ?_ ?_
     rotate_left
     ·intro w'
      go_simp
      with_reducible rfl
     rotate_left
     ·simp only [Act.put, List.setIfInBounds_toArray, List.set_cons_zero, List.set_cons_succ, i64_w, i32_w]
      rfl
     refine pure_ (i := 15) (N := some 137) (v := ?_) (a' := ?_) (ob 24 65535) rfl rfl (by kernel_rfl) (fun _ _ _ h => h) (Or.inl ⟨by rfl, ?_⟩) ?_ ?_
     rotate_left
     ·intro w'
      go_simp
      with_reducible rfl
     rotate_left
     ·simp only [Act.put, List.setIfInBounds_toArray, List.set_cons_zero, List.set_cons_succ, i64_w, i32_w]
      rfl
     refine pure_ (i := 16) (N := some 138) (v := ?_) (a' := ?_) (ob 24 131071) rfl rfl (by kernel_rfl) (fun _ _ _ h => h) (Or.inl ⟨by rfl, ?_⟩) ?_ ?_
     rotate_left
     ·intro w'
      go_simp
      with_reducible rfl
     rotate_left
     ·simp only [Act.put, List.setIfInBounds_toArray, List.set_cons_zero, List.set_cons_succ, i64_w, i32_w]
      rfl
     refine pure_ (i := 17) (N := some 139) (v := ?_) (a' := ?_) (ob 24 262143) rfl rfl (by kernel_rfl) (fun _ _ _ h => h) (Or.inl ⟨by rfl, ?_⟩) ?_ ?_
     rotate_left
     ·intro w'
      go_simp
      with_reducible rfl
     rotate_left
     ·simp only [Act.put, List.setIfInBounds_toArray, List.set_cons_zero, List.set_cons_succ, i64_w, i32_w]
      rfl
     refine pure_ (i := 18) (N := some 140) (v := ?_) (a' := ?_) (ob 24 524287) rfl rfl (by kernel_rfl) (fun _ _ _ h => h) (Or.inl ⟨by rfl, ?_⟩) ?_ ?_
     rotate_left
     ·intro w'
      go_simp
      with_reducible rfl
     rotate_left
     ·simp only [Act.put, List.setIfInBounds_toArray, List.set_cons_zero, List.set_cons_succ, i64_w, i32_w]
      rfl
     refine take_ (i := 19) (N := some 141) (v := ?_) (a' := ?_) (ob 24 1048575) rfl rfl (by kernel_rfl) (fun _ _ _ h => h) (Or.inl ⟨by rfl, ?_⟩) hHeld ?_ ?_
     rotate_left
     ·rintro w' ⟨s0, s1, s2, s3, s4, s5, s6, s7, s8, s9, s10, s11⟩
      go_simp
      with_reducible rfl
     rotate_left
     ·simp only [Act.put, List.setIfInBounds_toArray, List.set_cons_zero, List.set_cons_succ, i64_w, i32_w]
      rfl
     refine take_ (i := 20) (N := some 142) (v := ?_) (a' := ?_) (ob 24 2097151) rfl rfl (by kernel_rfl) (fun _ _ _ h => h) (Or.inl ⟨by rfl, ?_⟩) hHeld ?_ ?_
     rotate_left
     ·rintro w' ⟨s0, s1, s2, s3, s4, s5, s6, s7, s8, s9, s10, s11⟩
      go_simp
      with_reducible rfl
     rotate_left
     ·simp only [Act.put, List.setIfInBounds_toArray, List.set_cons_zero, List.set_cons_succ, i64_w, i32_w]
      rfl
     refine take_ (i := 21) (N := some 143) (v := ?_) (a' := ?_) (ob 24 4194303) rfl rfl (by kernel_rfl) (fun _ _ _ h => h) (Or.inl ⟨by rfl, ?_⟩) hHeld ?_ ?_
     rotate_left
     ·rintro w' ⟨s0, s1, s2, s3, s4, s5, s6, s7, s8, s9, s10, s11⟩
      go_simp
      with_reducible rfl
     rotate_left
     ·simp only [Act.put, List.setIfInBounds_toArray, List.set_cons_zero, List.set_cons_succ, i64_w, i32_w]
      rfl
     refine pure_ (i := 22) (N := some 144) (v := ?_) (a' := ?_) (ob 24 8388607) rfl rfl (by kernel_rfl) (fun _ _ _ h => h) (Or.inl ⟨by rfl, ?_⟩) ?_ ?_
     rotate_left
     ·intro w'
      go_simp
      with_reducible rfl
     rotate_left
     ·simp only [Act.put, List.setIfInBounds_toArray, List.set_cons_zero, List.set_cons_succ, i64_w, i32_w]
      rfl
     refine pure_ (i := 23) (N := some 121) (v := ?_) (a' := ?_) (ob 24 16777215) rfl rfl (by kernel_rfl) (fun _ _ _ h => h) (Or.inl ⟨by rfl, ?_⟩) ?_ ?_
     rotate_left
     ·intro w'
      go_simp
      with_reducible rfl
     rotate_left
     ·simp only [Act.put, List.setIfInBounds_toArray, List.set_cons_zero, List.set_cons_succ, i64_w, i32_w]
      rfl
     refine done_ (by kernel_rfl) ?_
     go_wp2_with fail
     go_ret
     exact ⟨rfl, HP.out⟩
    simp only [Bool.or_self, Bool.false_or, Bool.false_eq_true, if_false] at T1
    have HC2 := Aside0.mk T1
    clear T1
    have n1 := Aside0.mk (HP.out.drew)
    have n2 := Aside0.mk (show (W9.drew).heap[gx]? = some (.cells #[.string x.f0, .string x.f1, .string x.f2, .string x.f3, .int .i64 x.f4, .int .i64 x.f5.f0, .bool x.f5.f1, .int .i64 x.f5.f2, .string x.f5.f3, .slice A9 x.f5.f4.length c9, .slice A10 x.f5.f5.length c10, .string x.f6, .slice A12 x.f7.length c12] 39 (0, 0)) from BX.out)
    have n3 := Aside0.mk (show (W9.drew).heap[gk]? = some (.cells #[.string (⟨#[107, 101, 121]⟩ : ByteArray), .string x.f2, .string x.f1] 60 (0, 0)) from BK.out)
    have n4 := Aside0.mk (show (W9.drew).heap[s]? = some (.cells #[.string (⟨#[116, 114, 97, 110, 115, 108, 97, 116, 105, 111, 110]⟩ : ByteArray), .string x.f2, .string t] 60 (0, 0)) from BO.out)
    clear HP BX BK BO
    have HP := n1
    have BX := n2
    have BK := n3
    have BO := n4
    clear n1 n2 n3 n4
    refine start_ (n := 24) (S := fun w' => w'.cell? ⟨g, 3, none⟩ = some (.map (some b2)) ∧ w'.cell? ⟨g, 4, none⟩ = some (.map (some b3)) ∧ w'.cell? ⟨gx, 3, none⟩ = some (.string x.f3) ∧ w'.cell? ⟨gk, 0, none⟩ = some (.string (⟨#[107, 101, 121]⟩ : ByteArray)) ∧ w'.cell? ⟨gk, 1, none⟩ = some (.string x.f2) ∧ w'.cell? ⟨gk, 2, none⟩ = some (.string x.f1) ∧ w'.cell? ⟨s, 0, none⟩ = some (.string (⟨#[116, 114, 97, 110, 115, 108, 97, 116, 105, 111, 110]⟩ : ByteArray)) ∧ w'.cell? ⟨s, 1, none⟩ = some (.string x.f2) ∧ w'.cell? ⟨s, 2, none⟩ = some (.string t) ∧ (Instr.lookup 33 (.map (some b2)) (.string x.f3) false).run Tryd.prog w' = .ok (.bool false) w' ∧ (Instr.lookup 46 (.map (some b3)) (.agg #[.string (⟨#[107, 101, 121]⟩ : ByteArray), .string x.f2, .string x.f1]) false).run Tryd.prog w' = .ok (.bool false) w' ∧ (Instr.lookup 46 (.map (some b3)) (.agg #[.string (⟨#[116, 114, 97, 110, 115, 108, 97, 116, 105, 111, 110]⟩ : ByteArray), .string x.f2, .string t]) false).run Tryd.prog w' = .ok (.bool false) w') (ds := []) #[false, false, false, false, false, false, false, false, false, false, false, false, false, false, false, false, false, false, false, false, false, false, false, false] (by kernel_rfl) rfl rfl ⟨(blk_cell HP.out.Q 3), (blk_cell HP.out.Q 4), (blk_cell BX.out 3), (blk_cell BK.out 0), (blk_cell BK.out 1), (blk_cell BK.out 2), (blk_cell BO.out 0), (blk_cell BO.out 1), (blk_cell BO.out 2), (hl1 1), (hl2 1), (hl3 1)⟩ (fun hHeld => ?_)
    clear hl1 hl2 hl3
    generalize W9.drew = W10 at HP BX BK BO hHeld ⊢
    refine pure_ (i := 0) (N := some 122) (v := ?_) (a' := ?_) (ob 24 1) rfl rfl (by kernel_rfl) (fun _ _ _ h => h) (Or.inl ⟨by rfl, ?_⟩) ?_ ?_
    rotate_left
    ·intro w'
     go_simp
     with_reducible rfl
    rotate_left
    ·simp only [Act.put, List.setIfInBounds_toArray, List.set_cons_zero, List.set_cons_succ, i64_w, i32_w]
     rfl
    refine pure_ (i := 1) (N := some 123) (v := ?_) (a' := ?_) (ob 24 3) rfl rfl (by kernel_rfl) (fun _ _ _ h => h) (Or.inl ⟨by rfl, ?_⟩) ?_ ?_
    rotate_left
    ·intro w'
     go_simp
     with_reducible rfl
    rotate_left
    ·simp only [Act.put, List.setIfInBounds_toArray, List.set_cons_zero, List.set_cons_succ, i64_w, i32_w]
     rfl
    refine pure_ (i := 2) (N := some 124) (v := ?_) (a' := ?_) (ob 24 7) rfl rfl (by kernel_rfl) (fun _ _ _ h => h) (Or.inl ⟨by rfl, ?_⟩) ?_ ?_
    rotate_left
    ·intro w'
     go_simp
     with_reducible rfl
    rotate_left
    ·simp only [Act.put, List.setIfInBounds_toArray, List.set_cons_zero, List.set_cons_succ, i64_w, i32_w]
     rfl
    refine pure_ (i := 4) (N := some 126) (v := ?_) (a' := ?_) (ob 24 23) rfl rfl (by kernel_rfl) (fun _ _ _ h => h) (Or.inl ⟨by rfl, ?_⟩) ?_ ?_
    rotate_left
    ·intro w'
     go_simp
     with_reducible rfl
    rotate_left
    ·simp only [Act.put, List.setIfInBounds_toArray, List.set_cons_zero, List.set_cons_succ, i64_w, i32_w]
     rfl
    refine take_ (i := 3) (N := some 125) (v := ?_) (a' := ?_) (ob 24 31) rfl rfl (by kernel_rfl) (fun _ _ _ h => h) (Or.inl ⟨by rfl, ?_⟩) hHeld ?_ ?_
    rotate_left
    ·rintro w' ⟨s0, s1, s2, s3, s4, s5, s6, s7, s8, s9, s10, s11⟩
     go_simp
     with_reducible rfl
    rotate_left
    ·simp only [Act.put, List.setIfInBounds_toArray, List.set_cons_zero, List.set_cons_succ, i64_w, i32_w]
     rfl
    refine take_ (i := 5) (N := some 127) (v := ?_) (a' := ?_) (ob 24 63) rfl rfl (by kernel_rfl) (fun _ _ _ h => h) (Or.inl ⟨by rfl, ?_⟩) hHeld ?_ ?_
    rotate_left
    ·rintro w' ⟨s0, s1, s2, s3, s4, s5, s6, s7, s8, s9, s10, s11⟩
     go_simp
     with_reducible rfl
    rotate_left
    ·simp only [Act.put, List.setIfInBounds_toArray, List.set_cons_zero, List.set_cons_succ, i64_w, i32_w]
     rfl
    refine take_ (i := 6) (N := some 128) (v := ?_) (a' := ?_) (ob 24 127) rfl rfl (by kernel_rfl) (fun _ _ _ h => h) (Or.inl ⟨by rfl, ?_⟩) hHeld ?_ ?_
    rotate_left
    ·rintro w' ⟨s0, s1, s2, s3, s4, s5, s6, s7, s8, s9, s10, s11⟩
     go_simp
     with_reducible rfl
    rotate_left
    ·simp only [Act.put, List.setIfInBounds_toArray, List.set_cons_zero, List.set_cons_succ, i64_w, i32_w]
     rfl
    refine pure_ (i := 7) (N := some 129) (v := ?_) (a' := ?_) (ob 24 255) rfl rfl (by kernel_rfl) (fun _ _ _ h => h) (Or.inl ⟨by rfl, ?_⟩) ?_ ?_
    rotate_left
    ·intro w'
     go_simp
     with_reducible rfl
    rotate_left
    ·simp only [Act.put, List.setIfInBounds_toArray, List.set_cons_zero, List.set_cons_succ, i64_w, i32_w]
     rfl
    refine pure_ (i := 8) (N := some 130) (v := ?_) (a' := ?_) (ob 24 511) rfl rfl (by kernel_rfl) (fun _ _ _ h => h) (Or.inl ⟨by rfl, ?_⟩) ?_ ?_
    rotate_left
    ·intro w'
     go_simp
     with_reducible rfl
    rotate_left
    ·simp only [Act.put, List.setIfInBounds_toArray, List.set_cons_zero, List.set_cons_succ, i64_w, i32_w]
     rfl
    refine pure_ (i := 9) (N := some 131) (v := ?_) (a' := ?_) (ob 24 1023) rfl rfl (by kernel_rfl) (fun _ _ _ h => h) (Or.inl ⟨by rfl, ?_⟩) ?_ ?_
    rotate_left
    ·intro w'
     go_simp
     with_reducible rfl
    rotate_left
    ·simp only [Act.put, List.setIfInBounds_toArray, List.set_cons_zero, List.set_cons_succ, i64_w, i32_w]
     rfl
    refine pure_ (i := 10) (N := some 132) (v := ?_) (a' := ?_) (ob 24 2047) rfl rfl (by kernel_rfl) (fun _ _ _ h => h) (Or.inl ⟨by rfl, ?_⟩) ?_ ?_
    rotate_left
    ·intro w'
     go_simp
     with_reducible rfl
    rotate_left
    ·simp only [Act.put, List.setIfInBounds_toArray, List.set_cons_zero, List.set_cons_succ, i64_w, i32_w]
     rfl
    refine take_ (i := 11) (N := some 133) (v := ?_) (a' := ?_) (ob 24 4095) rfl rfl (by kernel_rfl) (fun _ _ _ h => h) (Or.inl ⟨by rfl, ?_⟩) hHeld ?_ ?_
    rotate_left
    ·rintro w' ⟨s0, s1, s2, s3, s4, s5, s6, s7, s8, s9, s10, s11⟩
     go_simp
     with_reducible rfl
    rotate_left
    ·simp only [Act.put, List.setIfInBounds_toArray, List.set_cons_zero, List.set_cons_succ, i64_w, i32_w]
     rfl
    refine take_ (i := 12) (N := some 134) (v := ?_) (a' := ?_) (ob 24 8191) rfl rfl (by kernel_rfl) (fun _ _ _ h => h) (Or.inl ⟨by rfl, ?_⟩) hHeld ?_ ?_
    rotate_left
    ·rintro w' ⟨s0, s1, s2, s3, s4, s5, s6, s7, s8, s9, s10, s11⟩
     go_simp
     with_reducible rfl
    rotate_left
    ·simp only [Act.put, List.setIfInBounds_toArray, List.set_cons_zero, List.set_cons_succ, i64_w, i32_w]
     rfl
    refine take_ (i := 13) (N := some 135) (v := ?_) (a' := ?_) (ob 24 16383) rfl rfl (by kernel_rfl) (fun _ _ _ h => h) (Or.inl ⟨by rfl, ?_⟩) hHeld ?_ ?_
    rotate_left
    ·rintro w' ⟨s0, s1, s2, s3, s4, s5, s6, s7, s8, s9, s10, s11⟩
     go_simp
     with_reducible rfl
    rotate_left
    ·simp only [Act.put, List.setIfInBounds_toArray, List.set_cons_zero, List.set_cons_succ, i64_w, i32_w]
     rfl
    refine pure_ (i := 14) (N := some 136) (v := ?_) (a' := ?_) (ob 24 32767) rfl rfl (by kernel_rfl) (fun _ _ _ h => h) (Or.inl ⟨by rfl, ?_⟩) ?_ ?_
    rotate_left
    ·intro w'
     go_simp
     with_reducible rfl
    rotate_left
    ·simp only [Act.put, List.setIfInBounds_toArray, List.set_cons_zero, List.set_cons_succ, i64_w, i32_w]
     rfl
    refine pure_ (i := 15) (N := some 137) (v := ?_) (a' := ?_) (ob 24 65535) rfl rfl (by kernel_rfl) (fun _ _ _ h => h) (Or.inl ⟨by rfl, ?_⟩) ?_ ?_
    rotate_left
    ·intro w'
     go_simp
     with_reducible rfl
    rotate_left
    ·simp only [Act.put, List.setIfInBounds_toArray, List.set_cons_zero, List.set_cons_succ, i64_w, i32_w]
     rfl
    refine pure_ (i := 16) (N := some 138) (v := ?_) (a' := ?_) (ob 24 131071) rfl rfl (by kernel_rfl) (fun _ _ _ h => h) (Or.inl ⟨by rfl, ?_⟩) ?_ ?_
    rotate_left
    ·intro w'
     go_simp
     with_reducible rfl
    rotate_left
    ·simp only [Act.put, List.setIfInBounds_toArray, List.set_cons_zero, List.set_cons_succ, i64_w, i32_w]
     rfl
    refine pure_ (i := 17) (N := some 139) (v := ?_) (a' := ?_) (ob 24 262143) rfl rfl (by kernel_rfl) (fun _ _ _ h => h) (Or.inl ⟨by rfl, ?_⟩) ?_ ?_
    rotate_left
    ·intro w'
     go_simp
     with_reducible rfl
    rotate_left
    ·simp only [Act.put, List.setIfInBounds_toArray, List.set_cons_zero, List.set_cons_succ, i64_w, i32_w]
     rfl
    refine pure_ (i := 18) (N := some 140) (v := ?_) (a' := ?_) (ob 24 524287) rfl rfl (by kernel_rfl) (fun _ _ _ h => h) (Or.inl ⟨by rfl, ?_⟩) ?_ ?_
    rotate_left
    ·intro w'
     go_simp
     with_reducible rfl
    rotate_left
    ·simp only [Act.put, List.setIfInBounds_toArray, List.set_cons_zero, List.set_cons_succ, i64_w, i32_w]
     rfl
    refine take_ (i := 19) (N := some 141) (v := ?_) (a' := ?_) (ob 24 1048575) rfl rfl (by kernel_rfl) (fun _ _ _ h => h) (Or.inl ⟨by rfl, ?_⟩) hHeld ?_ ?_
    rotate_left
    ·rintro w' ⟨s0, s1, s2, s3, s4, s5, s6, s7, s8, s9, s10, s11⟩
     go_simp
     with_reducible rfl
    rotate_left
    ·simp only [Act.put, List.setIfInBounds_toArray, List.set_cons_zero, List.set_cons_succ, i64_w, i32_w]
     rfl
    refine take_ (i := 20) (N := some 142) (v := ?_) (a' := ?_) (ob 24 2097151) rfl rfl (by kernel_rfl) (fun _ _ _ h => h) (Or.inl ⟨by rfl, ?_⟩) hHeld ?_ ?_
    rotate_left
    ·rintro w' ⟨s0, s1, s2, s3, s4, s5, s6, s7, s8, s9, s10, s11⟩
     go_simp
     with_reducible rfl
    rotate_left
    ·simp only [Act.put, List.setIfInBounds_toArray, List.set_cons_zero, List.set_cons_succ, i64_w, i32_w]
     rfl
    refine take_ (i := 21) (N := some 143) (v := ?_) (a' := ?_) (ob 24 4194303) rfl rfl (by kernel_rfl) (fun _ _ _ h => h) (Or.inl ⟨by rfl, ?_⟩) hHeld ?_ ?_
    rotate_left
    ·rintro w' ⟨s0, s1, s2, s3, s4, s5, s6, s7, s8, s9, s10, s11⟩
     go_simp
     with_reducible rfl
    rotate_left
    ·simp only [Act.put, List.setIfInBounds_toArray, List.set_cons_zero, List.set_cons_succ, i64_w, i32_w]
     rfl
    refine pure_ (i := 22) (N := some 144) (v := ?_) (a' := ?_) (ob 24 8388607) rfl rfl (by kernel_rfl) (fun _ _ _ h => h) (Or.inl ⟨by rfl, ?_⟩) ?_ ?_
    rotate_left
    ·intro w'
     go_simp
     with_reducible rfl
    rotate_left
    ·simp only [Act.put, List.setIfInBounds_toArray, List.set_cons_zero, List.set_cons_succ, i64_w, i32_w]
     rfl
    refine pure_ (i := 23) (N := some 121) (v := ?_) (a' := ?_) (ob 24 16777215) rfl rfl (by kernel_rfl) (fun _ _ _ h => h) (Or.inl ⟨by rfl, ?_⟩) ?_ ?_
    rotate_left
    ·intro w'
     go_simp
     with_reducible rfl
    rotate_left
    ·simp only [Act.put, List.setIfInBounds_toArray, List.set_cons_zero, List.set_cons_succ, i64_w, i32_w]
     rfl
    refine done_ (by kernel_rfl) ?_
    clear hHeld
    try clear y0 y1 y2 y3 y4 x0 x1 x2 x3 x4 x5 x6 x7 x8 x9 x10 x11 x12 k0 k1 k2 o0 o1 o2
    have y0 : W10.cell? ⟨g, 0, none⟩ = some (.slice A0 l0.length c0) := (blk_cell HP.out.Q 0).trans rfl
    have y1 : W10.cell? ⟨g, 1, none⟩ = some (.slice (some ad1) l1.length c1) := (blk_cell HP.out.Q 1).trans rfl
    have y2 : W10.cell? ⟨g, 2, none⟩ = some (.map (some b1)) := (blk_cell HP.out.Q 2).trans rfl
    have y3 : W10.cell? ⟨g, 3, none⟩ = some (.map (some b2)) := (blk_cell HP.out.Q 3).trans rfl
    have y4 : W10.cell? ⟨g, 4, none⟩ = some (.map (some b3)) := (blk_cell HP.out.Q 4).trans rfl
    have x0 : W10.cell? ⟨gx, 0, none⟩ = some (.string x.f0) := (blk_cell BX.out 0).trans rfl
    have x1 : W10.cell? ⟨gx, 1, none⟩ = some (.string x.f1) := (blk_cell BX.out 1).trans rfl
    have x2 : W10.cell? ⟨gx, 2, none⟩ = some (.string x.f2) := (blk_cell BX.out 2).trans rfl
    have x3 : W10.cell? ⟨gx, 3, none⟩ = some (.string x.f3) := (blk_cell BX.out 3).trans rfl
    have x4 : W10.cell? ⟨gx, 4, none⟩ = some (.int .i64 x.f4) := (blk_cell BX.out 4).trans rfl
    have x5 : W10.cell? ⟨gx, 5, none⟩ = some (.int .i64 x.f5.f0) := (blk_cell BX.out 5).trans rfl
    have x6 : W10.cell? ⟨gx, 6, none⟩ = some (.bool x.f5.f1) := (blk_cell BX.out 6).trans rfl
    have x7 : W10.cell? ⟨gx, 7, none⟩ = some (.int .i64 x.f5.f2) := (blk_cell BX.out 7).trans rfl
    have x8 : W10.cell? ⟨gx, 8, none⟩ = some (.string x.f5.f3) := (blk_cell BX.out 8).trans rfl
    have x9 : W10.cell? ⟨gx, 9, none⟩ = some (.slice A9 x.f5.f4.length c9) := (blk_cell BX.out 9).trans rfl
    have x10 : W10.cell? ⟨gx, 10, none⟩ = some (.slice A10 x.f5.f5.length c10) := (blk_cell BX.out 10).trans rfl
    have x11 : W10.cell? ⟨gx, 11, none⟩ = some (.string x.f6) := (blk_cell BX.out 11).trans rfl
    have x12 : W10.cell? ⟨gx, 12, none⟩ = some (.slice A12 x.f7.length c12) := (blk_cell BX.out 12).trans rfl
    have k0 : W10.cell? ⟨gk, 0, none⟩ = some (.string (⟨#[107, 101, 121]⟩ : ByteArray)) := (blk_cell BK.out 0).trans rfl
    have k1 : W10.cell? ⟨gk, 1, none⟩ = some (.string x.f2) := (blk_cell BK.out 1).trans rfl
    have k2 : W10.cell? ⟨gk, 2, none⟩ = some (.string x.f1) := (blk_cell BK.out 2).trans rfl
    have o0 : W10.cell? ⟨s, 0, none⟩ = some (.string (⟨#[116, 114, 97, 110, 115, 108, 97, 116, 105, 111, 110]⟩ : ByteArray)) := (blk_cell BO.out 0).trans rfl
    have o1 : W10.cell? ⟨s, 1, none⟩ = some (.string x.f2) := (blk_cell BO.out 1).trans rfl
    have o2 : W10.cell? ⟨s, 2, none⟩ = some (.string t) := (blk_cell BO.out 2).trans rfl
    go_upto_region 21 with (fail)
    go_cut [145] (fun v145 wc => ∃ b : Bool, v145 = .bool b ∧ Aside0 ((if b = true then some (1, ad, ks) else (pg_tail k l1 sc x).bind fun e => some (e, (x.f3, true) :: ad, ((tr_key, x.f2, t), true) :: ((pg_key, x.f2, x.f1), true) :: ks)) = some (r, ad', ks')) ∧ Aside0 (CkAt w g b1 b2 b3 (.slice A0 l0.length c0) (.slice (some ad1) l1.length c1) sc ad ks wc) ∧ Aside0 (wc.heap[gx]? = some (.cells #[.string x.f0, .string x.f1, .string x.f2, .string x.f3, .int .i64 x.f4, .int .i64 x.f5.f0, .bool x.f5.f1, .int .i64 x.f5.f2, .string x.f5.f3, .slice A9 x.f5.f4.length c9, .slice A10 x.f5.f5.length c10, .string x.f6, .slice A12 x.f7.length c12] 39 (0, 0))) ∧ Aside0 (wc.heap[gk]? = some (.cells #[.string (⟨#[107, 101, 121]⟩ : ByteArray), .string x.f2, .string x.f1] 60 (0, 0))) ∧ Aside0 (wc.heap[s]? = some (.cells #[.string (⟨#[116, 114, 97, 110, 115, 108, 97, 116, 105, 111, 110]⟩ : ByteArray), .string x.f2, .string t] 60 (0, 0))))
    case first => as_aux_lemma =>
     have T1 := HC2.out
     clear HC2
     by_cases q1 : x.f4 < 0
     ·have e1 : decide (x.f4 < 0) = true := decide_eq_true q1
      rw [e1, Bool.true_or] at T1
      clear q1
      have HC3 := Aside0.mk T1
      clear T1
      go_wp2_with fail
      go_meet
      case rel => exact ⟨true, rfl, HC3, HP, BX, BK, BO⟩
     have e1 : decide (x.f4 < 0) = false := decide_eq_false q1
     by_cases q2 : 2 < x.f4
     ·have e2 : decide (2 < x.f4) = true := decide_eq_true q2
      rw [e1, Bool.false_or, e2, Bool.true_or] at T1
      clear q1 q2
      have HC3 := Aside0.mk T1
      clear T1
      go_wp2_with fail
      go_meet
      case rel => exact ⟨true, rfl, HC3, HP, BX, BK, BO⟩
     have e2 : decide (2 < x.f4) = false := decide_eq_false q2
     by_cases q3 : x.f1.toList = []
     ·have e3 : (x.f1.toList == []) = true := beq_iff_eq.2 q3
      by_cases q4 : x.f4 = 2
      ·have e4 : (x.f4 != 2) = false := bne_eq_false_iff_eq.2 q4
       rw [e1, Bool.false_or, e2, Bool.false_or, e3, Bool.true_and, e4] at T1
       clear q1 q2 q3 q4
       have HC3 := Aside0.mk T1
       clear T1
       go_wp2_with fail
       go_meet
       case rel => exact ⟨false, rfl, HC3, HP, BX, BK, BO⟩
      ·have e4 : (x.f4 != 2) = true := bne_iff_ne.2 q4
       rw [e1, Bool.false_or, e2, Bool.false_or, e3, Bool.true_and, e4] at T1
       clear q1 q2 q3 q4
       have HC3 := Aside0.mk T1
       clear T1
       go_wp2_with fail
       go_meet
       case rel => exact ⟨true, rfl, HC3, HP, BX, BK, BO⟩
     ·have e3 : (x.f1.toList == []) = false := beq_eq_false_iff_ne.2 q3
      rw [e1, Bool.false_or, e2, Bool.false_or, e3, Bool.false_and] at T1
      clear q1 q2 q3
      have HC3 := Aside0.mk T1
      clear T1
      go_wp2_with fail
      go_meet
      case rel => exact ⟨false, rfl, HC3, HP, BX, BK, BO⟩
    case rest => as_aux_lemma =>
     clear HP BX BK BO
     try clear HC2
     try clear y0 y1 y2 y3 y4 x0 x1 x2 x3 x4 x5 x6 x7 x8 x9 x10 x11 x12 k0 k1 k2 o0 o1 o2
     obtain ⟨b, rfl, HC, HP, BX, BK, BO⟩ := hcut
     have y0 : wc.cell? ⟨g, 0, none⟩ = some (.slice A0 l0.length c0) := (blk_cell HP.out.Q 0).trans rfl
     have y1 : wc.cell? ⟨g, 1, none⟩ = some (.slice (some ad1) l1.length c1) := (blk_cell HP.out.Q 1).trans rfl
     have y2 : wc.cell? ⟨g, 2, none⟩ = some (.map (some b1)) := (blk_cell HP.out.Q 2).trans rfl
     have y3 : wc.cell? ⟨g, 3, none⟩ = some (.map (some b2)) := (blk_cell HP.out.Q 3).trans rfl
     have y4 : wc.cell? ⟨g, 4, none⟩ = some (.map (some b3)) := (blk_cell HP.out.Q 4).trans rfl
     have x0 : wc.cell? ⟨gx, 0, none⟩ = some (.string x.f0) := (blk_cell BX.out 0).trans rfl
     have x1 : wc.cell? ⟨gx, 1, none⟩ = some (.string x.f1) := (blk_cell BX.out 1).trans rfl
     have x2 : wc.cell? ⟨gx, 2, none⟩ = some (.string x.f2) := (blk_cell BX.out 2).trans rfl
     have x3 : wc.cell? ⟨gx, 3, none⟩ = some (.string x.f3) := (blk_cell BX.out 3).trans rfl
     have x4 : wc.cell? ⟨gx, 4, none⟩ = some (.int .i64 x.f4) := (blk_cell BX.out 4).trans rfl
     have x5 : wc.cell? ⟨gx, 5, none⟩ = some (.int .i64 x.f5.f0) := (blk_cell BX.out 5).trans rfl
     have x6 : wc.cell? ⟨gx, 6, none⟩ = some (.bool x.f5.f1) := (blk_cell BX.out 6).trans rfl
     have x7 : wc.cell? ⟨gx, 7, none⟩ = some (.int .i64 x.f5.f2) := (blk_cell BX.out 7).trans rfl
     have x8 : wc.cell? ⟨gx, 8, none⟩ = some (.string x.f5.f3) := (blk_cell BX.out 8).trans rfl
     have x9 : wc.cell? ⟨gx, 9, none⟩ = some (.slice A9 x.f5.f4.length c9) := (blk_cell BX.out 9).trans rfl
     have x10 : wc.cell? ⟨gx, 10, none⟩ = some (.slice A10 x.f5.f5.length c10) := (blk_cell BX.out 10).trans rfl
     have x11 : wc.cell? ⟨gx, 11, none⟩ = some (.string x.f6) := (blk_cell BX.out 11).trans rfl
     have x12 : wc.cell? ⟨gx, 12, none⟩ = some (.slice A12 x.f7.length c12) := (blk_cell BX.out 12).trans rfl
     have k0 : wc.cell? ⟨gk, 0, none⟩ = some (.string (⟨#[107, 101, 121]⟩ : ByteArray)) := (blk_cell BK.out 0).trans rfl
     have k1 : wc.cell? ⟨gk, 1, none⟩ = some (.string x.f2) := (blk_cell BK.out 1).trans rfl
     have k2 : wc.cell? ⟨gk, 2, none⟩ = some (.string x.f1) := (blk_cell BK.out 2).trans rfl
     have o0 : wc.cell? ⟨s, 0, none⟩ = some (.string (⟨#[116, 114, 97, 110, 115, 108, 97, 116, 105, 111, 110]⟩ : ByteArray)) := (blk_cell BO.out 0).trans rfl
     have o1 : wc.cell? ⟨s, 1, none⟩ = some (.string x.f2) := (blk_cell BO.out 1).trans rfl
     have o2 : wc.cell? ⟨s, 2, none⟩ = some (.string t) := (blk_cell BO.out 2).trans rfl
     cases b
     case true =>
      have H1 := HC.out
      rw [if_pos rfl] at H1
      cases H1
      go_wp2_with fail
      go_ret
      exact ⟨rfl, HP.out⟩
     have H1 := HC.out
     clear HC
     rw [if_neg (by decide)] at H1
     obtain ⟨e5, he5, H2⟩ := Option.bind_eq_some_iff.1 H1
     cases H2
     have HE5 := Aside0.mk he5
     clear H1 he5
     obtain ⟨qa, hqa⟩ := tm_q1 x.f3 HZ.out.2.2
     obtain ⟨qk, hqk⟩ := tm_q3 (pg_key, x.f2, x.f1) pg_keysize HZ.out.2.1 HZ.out.1
     obtain ⟨qo, hqo⟩ := tm_q3 (tr_key, x.f2, t) tr_keysize HZ.out.2.1 HTS.out
     have QA := Aside0.mk hqa
     have QK := Aside0.mk hqk
     have QO := Aside0.mk hqo
     clear hqa hqk hqo
     go_upto_region 23 with (fail)
     have n1 := Aside0.mk (HP.out.drew)
     have n2 := Aside0.mk (show (wc.drew).heap[gx]? = some (.cells #[.string x.f0, .string x.f1, .string x.f2, .string x.f3, .int .i64 x.f4, .int .i64 x.f5.f0, .bool x.f5.f1, .int .i64 x.f5.f2, .string x.f5.f3, .slice A9 x.f5.f4.length c9, .slice A10 x.f5.f5.length c10, .string x.f6, .slice A12 x.f7.length c12] 39 (0, 0)) from BX.out)
     have n3 := Aside0.mk (show (wc.drew).heap[gk]? = some (.cells #[.string (⟨#[107, 101, 121]⟩ : ByteArray), .string x.f2, .string x.f1] 60 (0, 0)) from BK.out)
     have n4 := Aside0.mk (show (wc.drew).heap[s]? = some (.cells #[.string (⟨#[116, 114, 97, 110, 115, 108, 97, 116, 105, 111, 110]⟩ : ByteArray), .string x.f2, .string t] 60 (0, 0)) from BO.out)
     clear HP BX BK BO
     have HP := n1
     have BX := n2
     have BK := n3
     have BO := n4
     clear n1 n2 n3 n4
     refine start_ (n := 25) (S := fun w' => w'.cell? ⟨g, 3, none⟩ = some (.map (some b2)) ∧ w'.cell? ⟨g, 4, none⟩ = some (.map (some b3)) ∧ w'.cell? ⟨gx, 3, none⟩ = some (.string x.f3) ∧ w'.cell? ⟨gk, 0, none⟩ = some (.string (⟨#[107, 101, 121]⟩ : ByteArray)) ∧ w'.cell? ⟨gk, 1, none⟩ = some (.string x.f2) ∧ w'.cell? ⟨gk, 2, none⟩ = some (.string x.f1) ∧ w'.cell? ⟨s, 0, none⟩ = some (.string (⟨#[116, 114, 97, 110, 115, 108, 97, 116, 105, 111, 110]⟩ : ByteArray)) ∧ w'.cell? ⟨s, 1, none⟩ = some (.string x.f2) ∧ w'.cell? ⟨s, 2, none⟩ = some (.string t)) (ds := []) #[false, false, false, false, false, false, false, false, false, false, false, false, false, false, false, false, false, false, false, false, false, false, false, false, false] (by kernel_rfl) rfl rfl ⟨(blk_cell HP.out.Q 3), (blk_cell HP.out.Q 4), (blk_cell BX.out 3), (blk_cell BK.out 0), (blk_cell BK.out 1), (blk_cell BK.out 2), (blk_cell BO.out 0), (blk_cell BO.out 1), (blk_cell BO.out 2)⟩ (fun hHeld => ?_)
     generalize wc.drew = W11 at HP BX BK BO hHeld ⊢
     refine pure_ (i := 0) (N := some 164) (v := ?_) (a' := ?_) (ob 25 1) rfl rfl (by kernel_rfl) (fun _ _ _ h => h) (Or.inl ⟨by rfl, ?_⟩) ?_ ?_
     rotate_left
     ·intro w'
      go_simp
      with_reducible rfl
     rotate_left
     ·simp only [Act.put, List.setIfInBounds_toArray, List.set_cons_zero, List.set_cons_succ, i64_w, i32_w]
      rfl
     refine pure_ (i := 1) (N := some 165) (v := ?_) (a' := ?_) (ob 25 3) rfl rfl (by kernel_rfl) (fun _ _ _ h => h) (Or.inl ⟨by rfl, ?_⟩) ?_ ?_
     rotate_left
     ·intro w'
      go_simp
      with_reducible rfl
     rotate_left
     ·simp only [Act.put, List.setIfInBounds_toArray, List.set_cons_zero, List.set_cons_succ, i64_w, i32_w]
      rfl
     refine pure_ (i := 2) (N := some 166) (v := ?_) (a' := ?_) (ob 25 7) rfl rfl (by kernel_rfl) (fun _ _ _ h => h) (Or.inl ⟨by rfl, ?_⟩) ?_ ?_
     rotate_left
     ·intro w'
      go_simp
      with_reducible rfl
     rotate_left
     ·simp only [Act.put, List.setIfInBounds_toArray, List.set_cons_zero, List.set_cons_succ, i64_w, i32_w]
      rfl
     refine pure_ (i := 4) (N := some 168) (v := ?_) (a' := ?_) (ob 25 23) rfl rfl (by kernel_rfl) (fun _ _ _ h => h) (Or.inl ⟨by rfl, ?_⟩) ?_ ?_
     rotate_left
     ·intro w'
      go_simp
      with_reducible rfl
     rotate_left
     ·simp only [Act.put, List.setIfInBounds_toArray, List.set_cons_zero, List.set_cons_succ, i64_w, i32_w]
      rfl
     refine pure_ (i := 6) (N := some 170) (v := ?_) (a' := ?_) (ob 25 87) rfl rfl (by kernel_rfl) (fun _ _ _ h => h) (Or.inl ⟨by rfl, ?_⟩) ?_ ?_
     rotate_left
     ·intro w'
      go_simp
      with_reducible rfl
     rotate_left
     ·simp only [Act.put, List.setIfInBounds_toArray, List.set_cons_zero, List.set_cons_succ, i64_w, i32_w]
      rfl
     refine pure_ (i := 7) (N := some 171) (v := ?_) (a' := ?_) (ob 25 215) rfl rfl (by kernel_rfl) (fun _ _ _ h => h) (Or.inl ⟨by rfl, ?_⟩) ?_ ?_
     rotate_left
     ·intro w'
      go_simp
      with_reducible rfl
     rotate_left
     ·simp only [Act.put, List.setIfInBounds_toArray, List.set_cons_zero, List.set_cons_succ, i64_w, i32_w]
      rfl
     refine pure_ (i := 8) (N := some 172) (v := ?_) (a' := ?_) (ob 25 471) rfl rfl (by kernel_rfl) (fun _ _ _ h => h) (Or.inl ⟨by rfl, ?_⟩) ?_ ?_
     rotate_left
     ·intro w'
      go_simp
      with_reducible rfl
     rotate_left
     ·simp only [Act.put, List.setIfInBounds_toArray, List.set_cons_zero, List.set_cons_succ, i64_w, i32_w]
      rfl
     refine pure_ (i := 11) (N := some 175) (v := ?_) (a' := ?_) (ob 25 2519) rfl rfl (by kernel_rfl) (fun _ _ _ h => h) (Or.inl ⟨by rfl, ?_⟩) ?_ ?_
     rotate_left
     ·intro w'
      go_simp
      with_reducible rfl
     rotate_left
     ·simp only [Act.put, List.setIfInBounds_toArray, List.set_cons_zero, List.set_cons_succ, i64_w, i32_w]
      rfl
     refine pure_ (i := 12) (N := some 176) (v := ?_) (a' := ?_) (ob 25 6615) rfl rfl (by kernel_rfl) (fun _ _ _ h => h) (Or.inl ⟨by rfl, ?_⟩) ?_ ?_
     rotate_left
     ·intro w'
      go_simp
      with_reducible rfl
     rotate_left
     ·simp only [Act.put, List.setIfInBounds_toArray, List.set_cons_zero, List.set_cons_succ, i64_w, i32_w]
      rfl
     refine pure_ (i := 13) (N := some 177) (v := ?_) (a' := ?_) (ob 25 14807) rfl rfl (by kernel_rfl) (fun _ _ _ h => h) (Or.inl ⟨by rfl, ?_⟩) ?_ ?_
     rotate_left
     ·intro w'
      go_simp
      with_reducible rfl
     rotate_left
     ·simp only [Act.put, List.setIfInBounds_toArray, List.set_cons_zero, List.set_cons_succ, i64_w, i32_w]
      rfl
     refine take_ (i := 3) (N := some 167) (v := ?_) (a' := ?_) (ob 25 14815) rfl rfl (by kernel_rfl) (fun _ _ _ h => h) (Or.inl ⟨by rfl, ?_⟩) hHeld ?_ ?_
     rotate_left
     ·rintro w' ⟨s0, s1, s2, s3, s4, s5, s6, s7, s8⟩
      go_simp
      with_reducible rfl
     rotate_left
     ·simp only [Act.put, List.setIfInBounds_toArray, List.set_cons_zero, List.set_cons_succ, i64_w, i32_w]
      rfl
     refine take_ (i := 5) (N := some 169) (v := ?_) (a' := ?_) (ob 25 14847) rfl rfl (by kernel_rfl) (fun _ _ _ h => h) (Or.inl ⟨by rfl, ?_⟩) hHeld ?_ ?_
     rotate_left
     ·rintro w' ⟨s0, s1, s2, s3, s4, s5, s6, s7, s8⟩
      go_simp
      with_reducible rfl
     rotate_left
     ·simp only [Act.put, List.setIfInBounds_toArray, List.set_cons_zero, List.set_cons_succ, i64_w, i32_w]
      rfl
     refine take_ (i := 9) (N := some 173) (v := ?_) (a' := ?_) (ob 25 15359) rfl rfl (by kernel_rfl) (fun _ _ _ h => h) (Or.inl ⟨by rfl, ?_⟩) hHeld ?_ ?_
     rotate_left
     ·rintro w' ⟨s0, s1, s2, s3, s4, s5, s6, s7, s8⟩
      go_simp
      with_reducible rfl
     rotate_left
     ·simp only [Act.put, List.setIfInBounds_toArray, List.set_cons_zero, List.set_cons_succ, i64_w, i32_w]
      rfl
     refine take_ (i := 10) (N := some 174) (v := ?_) (a' := ?_) (ob 25 16383) rfl rfl (by kernel_rfl) (fun _ _ _ h => h) (Or.inl ⟨by rfl, ?_⟩) hHeld ?_ ?_
     rotate_left
     ·rintro w' ⟨s0, s1, s2, s3, s4, s5, s6, s7, s8⟩
      go_simp
      with_reducible rfl
     rotate_left
     ·simp only [Act.put, List.setIfInBounds_toArray, List.set_cons_zero, List.set_cons_succ, i64_w, i32_w]
      rfl
     refine take_ (i := 14) (N := some 178) (v := ?_) (a' := ?_) (ob 25 32767) rfl rfl (by kernel_rfl) (fun _ _ _ h => h) (Or.inl ⟨by rfl, ?_⟩) hHeld ?_ ?_
     rotate_left
     ·rintro w' ⟨s0, s1, s2, s3, s4, s5, s6, s7, s8⟩
      go_simp
      with_reducible rfl
     rotate_left
     ·simp only [Act.put, List.setIfInBounds_toArray, List.set_cons_zero, List.set_cons_succ, i64_w, i32_w]
      rfl
     refine take_ (i := 15) (N := some 179) (v := ?_) (a' := ?_) (ob 25 65535) rfl rfl (by kernel_rfl) (fun _ _ _ h => h) (Or.inl ⟨by rfl, ?_⟩) hHeld ?_ ?_
     rotate_left
     ·rintro w' ⟨s0, s1, s2, s3, s4, s5, s6, s7, s8⟩
      go_simp
      with_reducible rfl
     rotate_left
     ·simp only [Act.put, List.setIfInBounds_toArray, List.set_cons_zero, List.set_cons_succ, i64_w, i32_w]
      rfl
     refine one_ (i := 16) (N := some 180) (ob 25 131071) rfl rfl (by kernel_rfl) (by decide) (fun K hK => ?_)
     obtain ⟨Wa, v0, st, hrun, hat, hg⟩ := HP.out.M2.entry (t := 33) tm_k1 Tryd.underlying33 E1_inj (z := false) tm_z4 QA.out
     refine value_ (w1 := Wa) (v := .tuple #[.bool v0, .int .i64 st]) (by rfl) rfl ?_ ?_
     ·have hrun2 : (Instr.mapEntry 33 (.map (some b2)) (.string x.f3)).run Tryd.prog _ = .ok (.tuple #[.bool v0, .int .i64 st]) Wa := hrun
      go_simp
      try first | done | rfl | (constructor <;> rfl)
     clear hrun
     have AT := Aside0.mk hat
     have n1 := Aside0.mk (HP.out.put2 hat.is hg)
     have n2 := Aside0.mk (Mp.blk_grown hg BX.out (HP.out.M2.ne BX.out))
     have n3 := Aside0.mk (Mp.blk_grown hg BK.out (HP.out.M2.ne BK.out))
     have n4 := Aside0.mk (Mp.blk_grown hg BO.out (HP.out.M2.ne BO.out))
     clear HP BX BK BO
     have HP := n1
     have BX := n2
     have BK := n3
     have BO := n4
     clear n1 n2 n3 n4 hg
     clear hat
     refine hK.out _ _ ⟨(blk_cell HP.out.Q 3), (blk_cell HP.out.Q 4), (blk_cell BX.out 3), (blk_cell BK.out 0), (blk_cell BK.out 1), (blk_cell BK.out 2), (blk_cell BO.out 0), (blk_cell BO.out 1), (blk_cell BO.out 2)⟩ (fun hHeld => ?_)
     clear hK K
     refine norm_ (a' := ?_) ?_ ?_
     rotate_left
     ·show Act.put _ (some 180) _ = _
      simp only [Act.put, List.setIfInBounds_toArray, List.set_cons_zero, List.set_cons_succ, i64_w, i32_w]
      rfl
     refine pure_ (i := 17) (N := some 181) (v := ?_) (a' := ?_) (ob 25 262143) rfl rfl (by kernel_rfl) (fun _ _ _ h => h) (Or.inl ⟨by rfl, ?_⟩) ?_ ?_
     rotate_left
     ·intro w'
      go_simp
      with_reducible rfl
     rotate_left
     ·simp only [Act.put, List.setIfInBounds_toArray, List.set_cons_zero, List.set_cons_succ, i64_w, i32_w]
      rfl
     refine one_ (i := 18) (N := none) (ob 25 524287) rfl rfl (by kernel_rfl) (by decide) (fun K hK => ?_)
     obtain ⟨Wb, hrun, hm, hg⟩ := AT.out.store (t := 33) E1_inj true
     refine skip_ (w1 := Wb) (by rfl) rfl ?_ ?_
     ·have hrun2 : (Instr.entryStore 33 (.map (some b2)) (.int .i64 st) (.bool true)).run Tryd.prog _ = .ok () Wb := hrun
      go_simp
      try first | done | rfl
     clear hrun AT
     have n1 := Aside0.mk (HP.out.put2 hm hg)
     have n2 := Aside0.mk (Mp.blk_grown hg BX.out (HP.out.M2.ne BX.out))
     have n3 := Aside0.mk (Mp.blk_grown hg BK.out (HP.out.M2.ne BK.out))
     have n4 := Aside0.mk (Mp.blk_grown hg BO.out (HP.out.M2.ne BO.out))
     clear HP BX BK BO
     have HP := n1
     have BX := n2
     have BK := n3
     have BO := n4
     clear n1 n2 n3 n4 hg
     clear hm
     refine hK.out _ _ ⟨(blk_cell HP.out.Q 3), (blk_cell HP.out.Q 4), (blk_cell BX.out 3), (blk_cell BK.out 0), (blk_cell BK.out 1), (blk_cell BK.out 2), (blk_cell BO.out 0), (blk_cell BO.out 1), (blk_cell BO.out 2)⟩ (fun hHeld => ?_)
     clear hK K
     refine one_ (i := 19) (N := some 182) (ob 25 1048575) rfl rfl (by kernel_rfl) (by decide) (fun K hK => ?_)
     obtain ⟨Wc, v0, st, hrun, hat, hg⟩ := HP.out.M3.entry (t := 46) tm_k3 Tryd.underlying46 E3_inj (z := false) tm_z4 QK.out
     refine value_ (w1 := Wc) (v := .tuple #[.bool v0, .int .i64 st]) (by rfl) rfl ?_ ?_
     ·have hrun2 : (Instr.mapEntry 46 (.map (some b3)) (.agg #[.string (⟨#[107, 101, 121]⟩ : ByteArray), .string x.f2, .string x.f1])).run Tryd.prog _ = .ok (.tuple #[.bool v0, .int .i64 st]) Wc := hrun
      go_simp
      try first | done | rfl | (constructor <;> rfl)
     clear hrun
     have AT := Aside0.mk hat
     have n1 := Aside0.mk (HP.out.put3 hat.is hg)
     have n2 := Aside0.mk (Mp.blk_grown hg BX.out (HP.out.M3.ne BX.out))
     have n3 := Aside0.mk (Mp.blk_grown hg BK.out (HP.out.M3.ne BK.out))
     have n4 := Aside0.mk (Mp.blk_grown hg BO.out (HP.out.M3.ne BO.out))
     clear HP BX BK BO
     have HP := n1
     have BX := n2
     have BK := n3
     have BO := n4
     clear n1 n2 n3 n4 hg
     clear hat
     refine hK.out _ _ ⟨(blk_cell HP.out.Q 3), (blk_cell HP.out.Q 4), (blk_cell BX.out 3), (blk_cell BK.out 0), (blk_cell BK.out 1), (blk_cell BK.out 2), (blk_cell BO.out 0), (blk_cell BO.out 1), (blk_cell BO.out 2)⟩ (fun hHeld => ?_)
     clear hK K
     refine norm_ (a' := ?_) ?_ ?_
     rotate_left
     ·show Act.put _ (some 182) _ = _
      simp only [Act.put, List.setIfInBounds_toArray, List.set_cons_zero, List.set_cons_succ, i64_w, i32_w]
      rfl
     refine pure_ (i := 20) (N := some 183) (v := ?_) (a' := ?_) (ob 25 2097151) rfl rfl (by kernel_rfl) (fun _ _ _ h => h) (Or.inl ⟨by rfl, ?_⟩) ?_ ?_
     rotate_left
     ·intro w'
      go_simp
      with_reducible rfl
     rotate_left
     ·simp only [Act.put, List.setIfInBounds_toArray, List.set_cons_zero, List.set_cons_succ, i64_w, i32_w]
      rfl
     refine one_ (i := 21) (N := none) (ob 25 4194303) rfl rfl (by kernel_rfl) (by decide) (fun K hK => ?_)
     obtain ⟨Wd, hrun, hm, hg⟩ := AT.out.store (t := 46) E3_inj true
     refine skip_ (w1 := Wd) (by rfl) rfl ?_ ?_
     ·have hrun2 : (Instr.entryStore 46 (.map (some b3)) (.int .i64 st) (.bool true)).run Tryd.prog _ = .ok () Wd := hrun
      go_simp
      try first | done | rfl
     clear hrun AT
     have n1 := Aside0.mk (HP.out.put3 hm hg)
     have n2 := Aside0.mk (Mp.blk_grown hg BX.out (HP.out.M3.ne BX.out))
     have n3 := Aside0.mk (Mp.blk_grown hg BK.out (HP.out.M3.ne BK.out))
     have n4 := Aside0.mk (Mp.blk_grown hg BO.out (HP.out.M3.ne BO.out))
     clear HP BX BK BO
     have HP := n1
     have BX := n2
     have BK := n3
     have BO := n4
     clear n1 n2 n3 n4 hg
     clear hm
     refine hK.out _ _ ⟨(blk_cell HP.out.Q 3), (blk_cell HP.out.Q 4), (blk_cell BX.out 3), (blk_cell BK.out 0), (blk_cell BK.out 1), (blk_cell BK.out 2), (blk_cell BO.out 0), (blk_cell BO.out 1), (blk_cell BO.out 2)⟩ (fun hHeld => ?_)
     clear hK K
     refine one_ (i := 22) (N := some 184) (ob 25 8388607) rfl rfl (by kernel_rfl) (by decide) (fun K hK => ?_)
     obtain ⟨We, v0, st, hrun, hat, hg⟩ := HP.out.M3.entry (t := 46) tm_k3 Tryd.underlying46 E3_inj (z := false) tm_z4 QO.out
     refine value_ (w1 := We) (v := .tuple #[.bool v0, .int .i64 st]) (by rfl) rfl ?_ ?_
     ·have hrun2 : (Instr.mapEntry 46 (.map (some b3)) (.agg #[.string (⟨#[116, 114, 97, 110, 115, 108, 97, 116, 105, 111, 110]⟩ : ByteArray), .string x.f2, .string t])).run Tryd.prog _ = .ok (.tuple #[.bool v0, .int .i64 st]) We := hrun
      go_simp
      try first | done | rfl | (constructor <;> rfl)
     clear hrun
     have AT := Aside0.mk hat
     have n1 := Aside0.mk (HP.out.put3 hat.is hg)
     have n2 := Aside0.mk (Mp.blk_grown hg BX.out (HP.out.M3.ne BX.out))
     have n3 := Aside0.mk (Mp.blk_grown hg BK.out (HP.out.M3.ne BK.out))
     have n4 := Aside0.mk (Mp.blk_grown hg BO.out (HP.out.M3.ne BO.out))
     clear HP BX BK BO
     have HP := n1
     have BX := n2
     have BK := n3
     have BO := n4
     clear n1 n2 n3 n4 hg
     clear hat
     refine hK.out _ _ ⟨(blk_cell HP.out.Q 3), (blk_cell HP.out.Q 4), (blk_cell BX.out 3), (blk_cell BK.out 0), (blk_cell BK.out 1), (blk_cell BK.out 2), (blk_cell BO.out 0), (blk_cell BO.out 1), (blk_cell BO.out 2)⟩ (fun hHeld => ?_)
     clear hK K
     refine norm_ (a' := ?_) ?_ ?_
     rotate_left
     ·show Act.put _ (some 184) _ = _
      simp only [Act.put, List.setIfInBounds_toArray, List.set_cons_zero, List.set_cons_succ, i64_w, i32_w]
      rfl
     refine pure_ (i := 23) (N := some 185) (v := ?_) (a' := ?_) (ob 25 16777215) rfl rfl (by kernel_rfl) (fun _ _ _ h => h) (Or.inl ⟨by rfl, ?_⟩) ?_ ?_
     rotate_left
     ·intro w'
      go_simp
      with_reducible rfl
     rotate_left
     ·simp only [Act.put, List.setIfInBounds_toArray, List.set_cons_zero, List.set_cons_succ, i64_w, i32_w]
      rfl
     refine one_ (i := 24) (N := none) (ob 25 33554431) rfl rfl (by kernel_rfl) (by decide) (fun K hK => ?_)
     obtain ⟨Wf, hrun, hm, hg⟩ := AT.out.store (t := 46) E3_inj true
     refine skip_ (w1 := Wf) (by rfl) rfl ?_ ?_
     ·have hrun2 : (Instr.entryStore 46 (.map (some b3)) (.int .i64 st) (.bool true)).run Tryd.prog _ = .ok () Wf := hrun
      go_simp
      try first | done | rfl
     clear hrun AT
     have n1 := Aside0.mk (HP.out.put3 hm hg)
     have n2 := Aside0.mk (Mp.blk_grown hg BX.out (HP.out.M3.ne BX.out))
     have n3 := Aside0.mk (Mp.blk_grown hg BK.out (HP.out.M3.ne BK.out))
     have n4 := Aside0.mk (Mp.blk_grown hg BO.out (HP.out.M3.ne BO.out))
     clear HP BX BK BO
     have HP := n1
     have BX := n2
     have BK := n3
     have BO := n4
     clear n1 n2 n3 n4 hg
     clear hm
     refine hK.out _ _ ⟨(blk_cell HP.out.Q 3), (blk_cell HP.out.Q 4), (blk_cell BX.out 3), (blk_cell BK.out 0), (blk_cell BK.out 1), (blk_cell BK.out 2), (blk_cell BO.out 0), (blk_cell BO.out 1), (blk_cell BO.out 2)⟩ (fun hHeld => ?_)
     clear hK K
     refine done_ (by kernel_rfl) ?_
     clear hHeld QA QK QO BK BO
     have T1 := HE5.out
     clear HE5
     unfold pg_tail at T1
     by_cases hk : x.f1.toList = []
     ·have e1 : (x.f1.toList == []) = true := beq_iff_eq.2 hk
      have e2 : (x.f1.toList != []) = false := bne_eq_false_iff_eq.2 hk
      rw [if_pos hk] at T1
      clear hk
      have y0 : Wf.cell? ⟨g, 0, none⟩ = some (.slice A0 l0.length c0) := (blk_cell HP.out.Q 0).trans rfl
      have y1 : Wf.cell? ⟨g, 1, none⟩ = some (.slice (some ad1) l1.length c1) := (blk_cell HP.out.Q 1).trans rfl
      have y2 : Wf.cell? ⟨g, 2, none⟩ = some (.map (some b1)) := (blk_cell HP.out.Q 2).trans rfl
      have y3 : Wf.cell? ⟨g, 3, none⟩ = some (.map (some b2)) := (blk_cell HP.out.Q 3).trans rfl
      have y4 : Wf.cell? ⟨g, 4, none⟩ = some (.map (some b3)) := (blk_cell HP.out.Q 4).trans rfl
      have x0 : Wf.cell? ⟨gx, 0, none⟩ = some (.string x.f0) := (blk_cell BX.out 0).trans rfl
      have x1 : Wf.cell? ⟨gx, 1, none⟩ = some (.string x.f1) := (blk_cell BX.out 1).trans rfl
      have x2 : Wf.cell? ⟨gx, 2, none⟩ = some (.string x.f2) := (blk_cell BX.out 2).trans rfl
      have x3 : Wf.cell? ⟨gx, 3, none⟩ = some (.string x.f3) := (blk_cell BX.out 3).trans rfl
      have x4 : Wf.cell? ⟨gx, 4, none⟩ = some (.int .i64 x.f4) := (blk_cell BX.out 4).trans rfl
      have x5 : Wf.cell? ⟨gx, 5, none⟩ = some (.int .i64 x.f5.f0) := (blk_cell BX.out 5).trans rfl
      have x6 : Wf.cell? ⟨gx, 6, none⟩ = some (.bool x.f5.f1) := (blk_cell BX.out 6).trans rfl
      have x7 : Wf.cell? ⟨gx, 7, none⟩ = some (.int .i64 x.f5.f2) := (blk_cell BX.out 7).trans rfl
      have x8 : Wf.cell? ⟨gx, 8, none⟩ = some (.string x.f5.f3) := (blk_cell BX.out 8).trans rfl
      have x9 : Wf.cell? ⟨gx, 9, none⟩ = some (.slice A9 x.f5.f4.length c9) := (blk_cell BX.out 9).trans rfl
      have x10 : Wf.cell? ⟨gx, 10, none⟩ = some (.slice A10 x.f5.f5.length c10) := (blk_cell BX.out 10).trans rfl
      have x11 : Wf.cell? ⟨gx, 11, none⟩ = some (.string x.f6) := (blk_cell BX.out 11).trans rfl
      have x12 : Wf.cell? ⟨gx, 12, none⟩ = some (.slice A12 x.f7.length c12) := (blk_cell BX.out 12).trans rfl
      unfold pg_files at T1
      have HF := Aside0.mk T1
      clear T1
      go_wp2_with (go_at_call 25; refine (tree_filesFault.calls k x.f0 x.f1 x.f2 x.f3 x.f4 x.f5.f0 x.f5.f1 x.f5.f2 x.f5.f3 A9 c9 x.f5.f4 A10 c10 x.f5.f5 x.f6 A12 c12 x.f7 _ _ (Kd.C_below HK9.out HP.out.B) HL9.out (Kd.C_below HK10.out HP.out.B) HL10.out (Kd.C_below HK12.out HP.out.B) HL12.out HF.out).mono ?_; rintro ee W20 ⟨rfl, hb⟩; have HP2 := Aside0.mk (HP.out.below hb); clear hb)
      go_ret
      exact ⟨rfl, HP2.out⟩
     rw [if_neg hk] at T1
     have e1 : (x.f1.toList == []) = false := beq_eq_false_iff_ne.2 hk
     have e2 : (x.f1.toList != []) = true := bne_iff_ne.2 hk
     clear hk
     obtain ⟨⟨d1, d2⟩, hd, T2⟩ := Option.bind_eq_some_iff.1 T1
     have HD := Aside0.mk hd
     clear hd T1
     split at T2
     case isFalse => cases T2
     rename_i hds
     have HDS := Aside0.mk hds
     have HC2 := Aside0.mk T2
     clear hds T2
     have y0 : Wf.cell? ⟨g, 0, none⟩ = some (.slice A0 l0.length c0) := (blk_cell HP.out.Q 0).trans rfl
     have y1 : Wf.cell? ⟨g, 1, none⟩ = some (.slice (some ad1) l1.length c1) := (blk_cell HP.out.Q 1).trans rfl
     have y2 : Wf.cell? ⟨g, 2, none⟩ = some (.map (some b1)) := (blk_cell HP.out.Q 2).trans rfl
     have y3 : Wf.cell? ⟨g, 3, none⟩ = some (.map (some b2)) := (blk_cell HP.out.Q 3).trans rfl
     have y4 : Wf.cell? ⟨g, 4, none⟩ = some (.map (some b3)) := (blk_cell HP.out.Q 4).trans rfl
     have x0 : Wf.cell? ⟨gx, 0, none⟩ = some (.string x.f0) := (blk_cell BX.out 0).trans rfl
     have x1 : Wf.cell? ⟨gx, 1, none⟩ = some (.string x.f1) := (blk_cell BX.out 1).trans rfl
     have x2 : Wf.cell? ⟨gx, 2, none⟩ = some (.string x.f2) := (blk_cell BX.out 2).trans rfl
     have x3 : Wf.cell? ⟨gx, 3, none⟩ = some (.string x.f3) := (blk_cell BX.out 3).trans rfl
     have x4 : Wf.cell? ⟨gx, 4, none⟩ = some (.int .i64 x.f4) := (blk_cell BX.out 4).trans rfl
     have x5 : Wf.cell? ⟨gx, 5, none⟩ = some (.int .i64 x.f5.f0) := (blk_cell BX.out 5).trans rfl
     have x6 : Wf.cell? ⟨gx, 6, none⟩ = some (.bool x.f5.f1) := (blk_cell BX.out 6).trans rfl
     have x7 : Wf.cell? ⟨gx, 7, none⟩ = some (.int .i64 x.f5.f2) := (blk_cell BX.out 7).trans rfl
     have x8 : Wf.cell? ⟨gx, 8, none⟩ = some (.string x.f5.f3) := (blk_cell BX.out 8).trans rfl
     have x9 : Wf.cell? ⟨gx, 9, none⟩ = some (.slice A9 x.f5.f4.length c9) := (blk_cell BX.out 9).trans rfl
     have x10 : Wf.cell? ⟨gx, 10, none⟩ = some (.slice A10 x.f5.f5.length c10) := (blk_cell BX.out 10).trans rfl
     have x11 : Wf.cell? ⟨gx, 11, none⟩ = some (.string x.f6) := (blk_cell BX.out 11).trans rfl
     have x12 : Wf.cell? ⟨gx, 12, none⟩ = some (.slice A12 x.f7.length c12) := (blk_cell BX.out 12).trans rfl
     go_upto_region 26 with (go_at_call 23; refine (tree_cutLast.calls k x.f1 d1 d2 _ HD.out).mono ?_; rintro ee w' ⟨rfl, ⟨nd, rfl⟩⟩)
     clear y0 y1 y2 y3 y4 x0 x1 x2 x3 x4 x5 x6 x7 x8 x9 x10 x11 x12
     have n1 := Aside0.mk (HP.out.drewN nd)
     have n2 := Aside0.mk (show (Wf.drewN nd).heap[gx]? = some (.cells #[.string x.f0, .string x.f1, .string x.f2, .string x.f3, .int .i64 x.f4, .int .i64 x.f5.f0, .bool x.f5.f1, .int .i64 x.f5.f2, .string x.f5.f3, .slice A9 x.f5.f4.length c9, .slice A10 x.f5.f5.length c10, .string x.f6, .slice A12 x.f7.length c12] 39 (0, 0)) from BX.out)
     clear HP BX
     have HP := n1
     have BX := n2
     clear n1 n2
     generalize Wf.drewN nd = W12 at HP BX ⊢
     have T2 := HC2.out
     clear HC2
     have hl0 : ∀ m, (Instr.lookup 44 (.map (some b1)) (.agg #[.string x.f2, .string d1]) true).run Tryd.prog (W12.drewN m) = .ok (.tuple #[.int .i64 ((Mp.look sc (x.f2, d1)).getD 0), .bool (Mp.look sc (x.f2, d1)).isSome]) (W12.drewN m) := fun m => lk2 (HP.out.drewN m).M1 _ _ HZ.out.2.1 HDS.out
     replace hl0 := hl0 1
     cases hq : Mp.look sc (x.f2, d1) with
     | none =>
      rw [hq] at T2 hl0
      cases T2
      replace hl0 : (Instr.lookup 44 (.map (some b1)) (.agg #[.string x.f2, .string d1]) true).run Tryd.prog (W12.drewN 1) = .ok (.tuple #[.int .i64 0, .bool false]) (W12.drewN 1) := hl0
      clear hq
      have n1 := Aside0.mk HP.out.drew
      have n2 := Aside0.mk (show (W12.drew).heap[gx]? = some (.cells #[.string x.f0, .string x.f1, .string x.f2, .string x.f3, .int .i64 x.f4, .int .i64 x.f5.f0, .bool x.f5.f1, .int .i64 x.f5.f2, .string x.f5.f3, .slice A9 x.f5.f4.length c9, .slice A10 x.f5.f5.length c10, .string x.f6, .slice A12 x.f7.length c12] 39 (0, 0)) from BX.out)
      clear HP BX
      have HP := n1
      have BX := n2
      clear n1 n2
      refine start_ (n := 14) (S := fun w' => w'.cell? ⟨g, 2, none⟩ = some (.map (some b1)) ∧ w'.cell? ⟨gx, 2, none⟩ = some (.string x.f2) ∧ (Instr.lookup 44 (.map (some b1)) (.agg #[.string x.f2, .string d1]) true).run Tryd.prog w' = .ok (.tuple #[.int .i64 0, .bool false]) w') (ds := []) #[false, false, false, false, false, false, false, false, false, false, false, false, false, false] (by kernel_rfl) rfl rfl ⟨(blk_cell HP.out.Q 2), (blk_cell BX.out 2), hl0⟩ (fun hHeld => ?_)
      clear hl0
      generalize W12.drew = W13 at HP BX hHeld ⊢
      refine pure_ (i := 0) (N := some 196) (v := ?_) (a' := ?_) (ob 14 1) rfl rfl (by kernel_rfl) (fun _ _ _ h => h) (Or.inl ⟨by rfl, ?_⟩) ?_ ?_
      rotate_left
      ·intro w'
       go_simp
       with_reducible rfl
      rotate_left
      ·simp only [Act.put, List.setIfInBounds_toArray, List.set_cons_zero, List.set_cons_succ, i64_w, i32_w]
       rfl
      refine pure_ (i := 1) (N := some 197) (v := ?_) (a' := ?_) (ob 14 3) rfl rfl (by kernel_rfl) (fun _ _ _ h => h) (Or.inl ⟨by rfl, ?_⟩) ?_ ?_
      rotate_left
      ·intro w'
       go_simp
       with_reducible rfl
      rotate_left
      ·simp only [Act.put, List.setIfInBounds_toArray, List.set_cons_zero, List.set_cons_succ, i64_w, i32_w]
       rfl
      refine pure_ (i := 2) (N := some 198) (v := ?_) (a' := ?_) (ob 14 7) rfl rfl (by kernel_rfl) (fun _ _ _ h => h) (Or.inl ⟨by rfl, ?_⟩) ?_ ?_
      rotate_left
      ·intro w'
       go_simp
       with_reducible rfl
      rotate_left
      ·simp only [Act.put, List.setIfInBounds_toArray, List.set_cons_zero, List.set_cons_succ, i64_w, i32_w]
       rfl
      refine pure_ (i := 4) (N := some 200) (v := ?_) (a' := ?_) (ob 14 23) rfl rfl (by kernel_rfl) (fun _ _ _ h => h) (Or.inl ⟨by rfl, ?_⟩) ?_ ?_
      rotate_left
      ·intro w'
       go_simp
       with_reducible rfl
      rotate_left
      ·simp only [Act.put, List.setIfInBounds_toArray, List.set_cons_zero, List.set_cons_succ, i64_w, i32_w]
       rfl
      refine pure_ (i := 6) (N := some 202) (v := ?_) (a' := ?_) (ob 14 87) rfl rfl (by kernel_rfl) (fun _ _ _ h => h) (Or.inl ⟨by rfl, ?_⟩) ?_ ?_
      rotate_left
      ·intro w'
       go_simp
       with_reducible rfl
      rotate_left
      ·simp only [Act.put, List.setIfInBounds_toArray, List.set_cons_zero, List.set_cons_succ, i64_w, i32_w]
       rfl
      refine take_ (i := 3) (N := some 199) (v := ?_) (a' := ?_) (ob 14 95) rfl rfl (by kernel_rfl) (fun _ _ _ h => h) (Or.inl ⟨by rfl, ?_⟩) hHeld ?_ ?_
      rotate_left
      ·rintro w' ⟨s0, s1, s2⟩
       go_simp
       with_reducible rfl
      rotate_left
      ·simp only [Act.put, List.setIfInBounds_toArray, List.set_cons_zero, List.set_cons_succ, i64_w, i32_w]
       rfl
      refine take_ (i := 5) (N := some 201) (v := ?_) (a' := ?_) (ob 14 127) rfl rfl (by kernel_rfl) (fun _ _ _ h => h) (Or.inl ⟨by rfl, ?_⟩) hHeld ?_ ?_
      rotate_left
      ·rintro w' ⟨s0, s1, s2⟩
       go_simp
       with_reducible rfl
      rotate_left
      ·simp only [Act.put, List.setIfInBounds_toArray, List.set_cons_zero, List.set_cons_succ, i64_w, i32_w]
       rfl
      refine pure_ (i := 7) (N := some 203) (v := ?_) (a' := ?_) (ob 14 255) rfl rfl (by kernel_rfl) (fun _ _ _ h => h) (Or.inl ⟨by rfl, ?_⟩) ?_ ?_
      rotate_left
      ·intro w'
       go_simp
       with_reducible rfl
      rotate_left
      ·simp only [Act.put, List.setIfInBounds_toArray, List.set_cons_zero, List.set_cons_succ, i64_w, i32_w]
       rfl
      refine take_ (i := 8) (N := some 204) (v := ?_) (a' := ?_) (ob 14 511) rfl rfl (by kernel_rfl) (fun _ _ _ h => h) (Or.inl ⟨by rfl, ?_⟩) hHeld ?_ ?_
      rotate_left
      ·rintro w' ⟨s0, s1, s2⟩
       go_simp
       with_reducible rfl
      rotate_left
      ·simp only [Act.put, List.setIfInBounds_toArray, List.set_cons_zero, List.set_cons_succ, i64_w, i32_w]
       rfl
      refine pure_ (i := 9) (N := some 195) (v := ?_) (a' := ?_) (ob 14 1023) rfl rfl (by kernel_rfl) (fun _ _ _ h => h) (Or.inl ⟨by rfl, ?_⟩) ?_ ?_
      rotate_left
      ·intro w'
       go_simp
       with_reducible rfl
      rotate_left
      ·simp only [Act.put, List.setIfInBounds_toArray, List.set_cons_zero, List.set_cons_succ, i64_w, i32_w]
       rfl
      refine pure_ (i := 10) (N := some 205) (v := ?_) (a' := ?_) (ob 14 2047) rfl rfl (by kernel_rfl) (fun _ _ _ h => h) (Or.inl ⟨by rfl, ?_⟩) ?_ ?_
      rotate_left
      ·intro w'
       go_simp
       with_reducible rfl
      rotate_left
      ·simp only [Act.put, List.setIfInBounds_toArray, List.set_cons_zero, List.set_cons_succ, i64_w, i32_w]
       rfl
      refine pure_ (i := 11) (N := some 206) (v := ?_) (a' := ?_) (ob 14 4095) rfl rfl (by kernel_rfl) (fun _ _ _ h => h) (Or.inl ⟨by rfl, ?_⟩) ?_ ?_
      rotate_left
      ·intro w'
       go_simp
       with_reducible rfl
      rotate_left
      ·simp only [Act.put, List.setIfInBounds_toArray, List.set_cons_zero, List.set_cons_succ, i64_w, i32_w]
       rfl
      refine pure_ (i := 12) (N := some 14) (v := ?_) (a' := ?_) (ob 14 8191) rfl rfl (by kernel_rfl) (fun _ _ _ h => h) (Or.inl ⟨by rfl, ?_⟩) ?_ ?_
      rotate_left
      ·intro w'
       go_simp
       with_reducible rfl
      rotate_left
      ·simp only [Act.put, List.setIfInBounds_toArray, List.set_cons_zero, List.set_cons_succ, i64_w, i32_w]
       rfl
      refine pure_ (i := 13) (N := some 15) (v := ?_) (a' := ?_) (ob 14 16383) rfl rfl (by kernel_rfl) (fun _ _ _ h => h) (Or.inl ⟨by rfl, ?_⟩) ?_ ?_
      rotate_left
      ·intro w'
       go_simp
       with_reducible rfl
      rotate_left
      ·simp only [Act.put, List.setIfInBounds_toArray, List.set_cons_zero, List.set_cons_succ, i64_w, i32_w]
       rfl
      refine done_ (by kernel_rfl) ?_
      clear hHeld
      go_upto_region 27 with (fail)
      have n1 := Aside0.mk HP.out.drew
      have n2 := Aside0.mk (show (W13.drew).heap[gx]? = some (.cells #[.string x.f0, .string x.f1, .string x.f2, .string x.f3, .int .i64 x.f4, .int .i64 x.f5.f0, .bool x.f5.f1, .int .i64 x.f5.f2, .string x.f5.f3, .slice A9 x.f5.f4.length c9, .slice A10 x.f5.f5.length c10, .string x.f6, .slice A12 x.f7.length c12] 39 (0, 0)) from BX.out)
      clear HP BX
      have HP := n1
      have BX := n2
      clear n1 n2
      refine start_ (n := 17) (S := fun w' => w'.cell? ⟨g, 1, none⟩ = some (.slice (some ad1) l1.length c1)) (ds := []) #[false, false, false, false, false, false, false, false, false, false, false, false, false, false, false, false, false] (by kernel_rfl) rfl rfl ((blk_cell HP.out.Q 1)) (fun hHeld => ?_)
      generalize W13.drew = W14 at HP BX hHeld ⊢
      refine pure_ (i := 0) (N := some 207) (v := ?_) (a' := ?_) (ob 17 1) rfl rfl (by kernel_rfl) (fun _ _ _ h => h) (Or.inl ⟨by rfl, ?_⟩) ?_ ?_
      rotate_left
      ·intro w'
       go_simp
       with_reducible rfl
      rotate_left
      ·simp only [Act.put, List.setIfInBounds_toArray, List.set_cons_zero, List.set_cons_succ, i64_w, i32_w]
       rfl
      refine pure_ (i := 1) (N := some 208) (v := ?_) (a' := ?_) (ob 17 3) rfl rfl (by kernel_rfl) (fun _ _ _ h => h) (Or.inl ⟨by rfl, ?_⟩) ?_ ?_
      rotate_left
      ·intro w'
       go_simp
       with_reducible rfl
      rotate_left
      ·simp only [Act.put, List.setIfInBounds_toArray, List.set_cons_zero, List.set_cons_succ, i64_w, i32_w]
       rfl
      refine pure_ (i := 2) (N := some 209) (v := ?_) (a' := ?_) (ob 17 7) rfl rfl (by kernel_rfl) (fun _ _ _ h => h) (Or.inl ⟨by rfl, ?_⟩) ?_ ?_
      rotate_left
      ·intro w'
       go_simp
       with_reducible rfl
      rotate_left
      ·simp only [Act.put, List.setIfInBounds_toArray, List.set_cons_zero, List.set_cons_succ, i64_w, i32_w]
       rfl
      refine pure_ (i := 3) (N := some 210) (v := undef) (a' := ?_) (ob 17 15) rfl rfl (by kernel_rfl) (fun _ _ _ h => h) (Or.inr ⟨by rfl, rfl⟩) ?_ ?_
      rotate_left
      ·simp only [Act.put, List.setIfInBounds_toArray, List.set_cons_zero, List.set_cons_succ, i64_w, i32_w]
       rfl
      refine pure_ (i := 4) (N := some 211) (v := undef) (a' := ?_) (ob 17 31) rfl rfl (by kernel_rfl) (fun _ _ _ h => h) (Or.inr ⟨by rfl, rfl⟩) ?_ ?_
      rotate_left
      ·simp only [Act.put, List.setIfInBounds_toArray, List.set_cons_zero, List.set_cons_succ, i64_w, i32_w]
       rfl
      refine pure_ (i := 5) (N := some 212) (v := undef) (a' := ?_) (ob 17 63) rfl rfl (by kernel_rfl) (fun _ _ _ h => h) (Or.inr ⟨by rfl, rfl⟩) ?_ ?_
      rotate_left
      ·simp only [Act.put, List.setIfInBounds_toArray, List.set_cons_zero, List.set_cons_succ, i64_w, i32_w]
       rfl
      refine pure_ (i := 6) (N := some 213) (v := undef) (a' := ?_) (ob 17 127) rfl rfl (by kernel_rfl) (fun _ _ _ h => h) (Or.inr ⟨by rfl, rfl⟩) ?_ ?_
      rotate_left
      ·simp only [Act.put, List.setIfInBounds_toArray, List.set_cons_zero, List.set_cons_succ, i64_w, i32_w]
       rfl
      refine pure_ (i := 7) (N := some 214) (v := undef) (a' := ?_) (ob 17 255) rfl rfl (by kernel_rfl) (fun _ _ _ h => h) (Or.inr ⟨by rfl, rfl⟩) ?_ ?_
      rotate_left
      ·simp only [Act.put, List.setIfInBounds_toArray, List.set_cons_zero, List.set_cons_succ, i64_w, i32_w]
       rfl
      refine pure_ (i := 8) (N := some 215) (v := undef) (a' := ?_) (ob 17 511) rfl rfl (by kernel_rfl) (fun _ _ _ h => h) (Or.inr ⟨by rfl, rfl⟩) ?_ ?_
      rotate_left
      ·simp only [Act.put, List.setIfInBounds_toArray, List.set_cons_zero, List.set_cons_succ, i64_w, i32_w]
       rfl
      refine pure_ (i := 9) (N := some 216) (v := undef) (a' := ?_) (ob 17 1023) rfl rfl (by kernel_rfl) (fun _ _ _ h => h) (Or.inr ⟨by rfl, rfl⟩) ?_ ?_
      rotate_left
      ·simp only [Act.put, List.setIfInBounds_toArray, List.set_cons_zero, List.set_cons_succ, i64_w, i32_w]
       rfl
      refine pure_ (i := 10) (N := some 217) (v := undef) (a' := ?_) (ob 17 2047) rfl rfl (by kernel_rfl) (fun _ _ _ h => h) (Or.inr ⟨by rfl, rfl⟩) ?_ ?_
      rotate_left
      ·simp only [Act.put, List.setIfInBounds_toArray, List.set_cons_zero, List.set_cons_succ, i64_w, i32_w]
       rfl
      refine pure_ (i := 11) (N := some 218) (v := undef) (a' := ?_) (ob 17 4095) rfl rfl (by kernel_rfl) (fun _ _ _ h => h) (Or.inr ⟨by rfl, rfl⟩) ?_ ?_
      rotate_left
      ·simp only [Act.put, List.setIfInBounds_toArray, List.set_cons_zero, List.set_cons_succ, i64_w, i32_w]
       rfl
      refine pure_ (i := 12) (N := some 219) (v := undef) (a' := ?_) (ob 17 8191) rfl rfl (by kernel_rfl) (fun _ _ _ h => h) (Or.inr ⟨by rfl, rfl⟩) ?_ ?_
      rotate_left
      ·simp only [Act.put, List.setIfInBounds_toArray, List.set_cons_zero, List.set_cons_succ, i64_w, i32_w]
       rfl
      refine pure_ (i := 13) (N := some 220) (v := undef) (a' := ?_) (ob 17 16383) rfl rfl (by kernel_rfl) (fun _ _ _ h => h) (Or.inr ⟨by rfl, rfl⟩) ?_ ?_
      rotate_left
      ·simp only [Act.put, List.setIfInBounds_toArray, List.set_cons_zero, List.set_cons_succ, i64_w, i32_w]
       rfl
      refine pure_ (i := 14) (N := some 221) (v := undef) (a' := ?_) (ob 17 32767) rfl rfl (by kernel_rfl) (fun _ _ _ h => h) (Or.inr ⟨by rfl, rfl⟩) ?_ ?_
      rotate_left
      ·simp only [Act.put, List.setIfInBounds_toArray, List.set_cons_zero, List.set_cons_succ, i64_w, i32_w]
       rfl
      refine pure_ (i := 15) (N := some 222) (v := undef) (a' := ?_) (ob 17 65535) rfl rfl (by kernel_rfl) (fun _ _ _ h => h) (Or.inr ⟨by rfl, rfl⟩) ?_ ?_
      rotate_left
      ·simp only [Act.put, List.setIfInBounds_toArray, List.set_cons_zero, List.set_cons_succ, i64_w, i32_w]
       rfl
      refine pure_ (i := 16) (N := some 223) (v := ?_) (a' := ?_) (ob 17 131071) rfl rfl (by kernel_rfl) (fun _ _ _ h => h) (Or.inl ⟨by rfl, ?_⟩) ?_ ?_
      rotate_left
      ·intro w'
       go_simp
       with_reducible rfl
      rotate_left
      ·simp only [Act.put, List.setIfInBounds_toArray, List.set_cons_zero, List.set_cons_succ, i64_w, i32_w]
       rfl
      refine done_ (by kernel_rfl) ?_
      clear hHeld
      go_wp2_with fail
      go_ret
      exact ⟨rfl, HP.out⟩
     | some q =>
      rw [hq] at T2 hl0
      replace hl0 : (Instr.lookup 44 (.map (some b1)) (.agg #[.string x.f2, .string d1]) true).run Tryd.prog (W12.drewN 1) = .ok (.tuple #[.int .i64 q, .bool true]) (W12.drewN 1) := hl0
      clear hq
      replace T2 : (if 0 ≤ q ∧ q < l1.length then (tree_oneMore.f (rd_T39 l1 q).f3 x.f3).bind fun b => if b = true then pg_files k x else some 7 else none) = some r := T2
      split at T2
      case isFalse => cases T2
      rename_i hqq
      obtain ⟨hq0, hq1⟩ := hqq
      obtain ⟨bm, hbm, T3⟩ := Option.bind_eq_some_iff.1 T2
      have HBM := Aside0.mk hbm
      have HC3 := Aside0.mk T3
      clear T2 hbm T3
      obtain ⟨ad2, B9, d9, B10, d10, B12, d12, e, _, _, _, z3, _⟩ := at_T39 HR1.out q hq0 hq1
      cases e
      have Z3 := Aside0.mk z3
      clear z3
      have hq0' := eq_true hq0
      have hq1' := eq_true hq1
      have hq0d : decide (0 ≤ q) = true := decide_eq_true hq0
      have hq1d : decide (q < (l1.length : Int)) = true := decide_eq_true hq1
      generalize rd_T39 l1 q = y at *
      have n1 := Aside0.mk HP.out.drew
      have n2 := Aside0.mk (show (W12.drew).heap[gx]? = some (.cells #[.string x.f0, .string x.f1, .string x.f2, .string x.f3, .int .i64 x.f4, .int .i64 x.f5.f0, .bool x.f5.f1, .int .i64 x.f5.f2, .string x.f5.f3, .slice A9 x.f5.f4.length c9, .slice A10 x.f5.f5.length c10, .string x.f6, .slice A12 x.f7.length c12] 39 (0, 0)) from BX.out)
      clear HP BX
      have HP := n1
      have BX := n2
      clear n1 n2
      refine start_ (n := 14) (S := fun w' => w'.cell? ⟨g, 2, none⟩ = some (.map (some b1)) ∧ w'.cell? ⟨gx, 2, none⟩ = some (.string x.f2) ∧ (Instr.lookup 44 (.map (some b1)) (.agg #[.string x.f2, .string d1]) true).run Tryd.prog w' = .ok (.tuple #[.int .i64 q, .bool true]) w') (ds := []) #[false, false, false, false, false, false, false, false, false, false, false, false, false, false] (by kernel_rfl) rfl rfl ⟨(blk_cell HP.out.Q 2), (blk_cell BX.out 2), hl0⟩ (fun hHeld => ?_)
      clear hl0
      generalize W12.drew = W13 at HP BX hHeld ⊢
      refine pure_ (i := 0) (N := some 196) (v := ?_) (a' := ?_) (ob 14 1) rfl rfl (by kernel_rfl) (fun _ _ _ h => h) (Or.inl ⟨by rfl, ?_⟩) ?_ ?_
      rotate_left
      ·intro w'
       go_simp
       with_reducible rfl
      rotate_left
      ·simp only [Act.put, List.setIfInBounds_toArray, List.set_cons_zero, List.set_cons_succ, i64_w, i32_w]
       rfl
      refine pure_ (i := 1) (N := some 197) (v := ?_) (a' := ?_) (ob 14 3) rfl rfl (by kernel_rfl) (fun _ _ _ h => h) (Or.inl ⟨by rfl, ?_⟩) ?_ ?_
      rotate_left
      ·intro w'
       go_simp
       with_reducible rfl
      rotate_left
      ·simp only [Act.put, List.setIfInBounds_toArray, List.set_cons_zero, List.set_cons_succ, i64_w, i32_w]
       rfl
      refine pure_ (i := 2) (N := some 198) (v := ?_) (a' := ?_) (ob 14 7) rfl rfl (by kernel_rfl) (fun _ _ _ h => h) (Or.inl ⟨by rfl, ?_⟩) ?_ ?_
      rotate_left
      ·intro w'
       go_simp
       with_reducible rfl
      rotate_left
      ·simp only [Act.put, List.setIfInBounds_toArray, List.set_cons_zero, List.set_cons_succ, i64_w, i32_w]
       rfl
      refine pure_ (i := 4) (N := some 200) (v := ?_) (a' := ?_) (ob 14 23) rfl rfl (by kernel_rfl) (fun _ _ _ h => h) (Or.inl ⟨by rfl, ?_⟩) ?_ ?_
      rotate_left
      ·intro w'
       go_simp
       with_reducible rfl
      rotate_left
      ·simp only [Act.put, List.setIfInBounds_toArray, List.set_cons_zero, List.set_cons_succ, i64_w, i32_w]
       rfl
      refine pure_ (i := 6) (N := some 202) (v := ?_) (a' := ?_) (ob 14 87) rfl rfl (by kernel_rfl) (fun _ _ _ h => h) (Or.inl ⟨by rfl, ?_⟩) ?_ ?_
      rotate_left
      ·intro w'
       go_simp
       with_reducible rfl
      rotate_left
      ·simp only [Act.put, List.setIfInBounds_toArray, List.set_cons_zero, List.set_cons_succ, i64_w, i32_w]
       rfl
      refine take_ (i := 3) (N := some 199) (v := ?_) (a' := ?_) (ob 14 95) rfl rfl (by kernel_rfl) (fun _ _ _ h => h) (Or.inl ⟨by rfl, ?_⟩) hHeld ?_ ?_
      rotate_left
      ·rintro w' ⟨s0, s1, s2⟩
       go_simp
       with_reducible rfl
      rotate_left
      ·simp only [Act.put, List.setIfInBounds_toArray, List.set_cons_zero, List.set_cons_succ, i64_w, i32_w]
       rfl
      refine take_ (i := 5) (N := some 201) (v := ?_) (a' := ?_) (ob 14 127) rfl rfl (by kernel_rfl) (fun _ _ _ h => h) (Or.inl ⟨by rfl, ?_⟩) hHeld ?_ ?_
      rotate_left
      ·rintro w' ⟨s0, s1, s2⟩
       go_simp
       with_reducible rfl
      rotate_left
      ·simp only [Act.put, List.setIfInBounds_toArray, List.set_cons_zero, List.set_cons_succ, i64_w, i32_w]
       rfl
      refine pure_ (i := 7) (N := some 203) (v := ?_) (a' := ?_) (ob 14 255) rfl rfl (by kernel_rfl) (fun _ _ _ h => h) (Or.inl ⟨by rfl, ?_⟩) ?_ ?_
      rotate_left
      ·intro w'
       go_simp
       with_reducible rfl
      rotate_left
      ·simp only [Act.put, List.setIfInBounds_toArray, List.set_cons_zero, List.set_cons_succ, i64_w, i32_w]
       rfl
      refine take_ (i := 8) (N := some 204) (v := ?_) (a' := ?_) (ob 14 511) rfl rfl (by kernel_rfl) (fun _ _ _ h => h) (Or.inl ⟨by rfl, ?_⟩) hHeld ?_ ?_
      rotate_left
      ·rintro w' ⟨s0, s1, s2⟩
       go_simp
       with_reducible rfl
      rotate_left
      ·simp only [Act.put, List.setIfInBounds_toArray, List.set_cons_zero, List.set_cons_succ, i64_w, i32_w]
       rfl
      refine pure_ (i := 9) (N := some 195) (v := ?_) (a' := ?_) (ob 14 1023) rfl rfl (by kernel_rfl) (fun _ _ _ h => h) (Or.inl ⟨by rfl, ?_⟩) ?_ ?_
      rotate_left
      ·intro w'
       go_simp
       with_reducible rfl
      rotate_left
      ·simp only [Act.put, List.setIfInBounds_toArray, List.set_cons_zero, List.set_cons_succ, i64_w, i32_w]
       rfl
      refine pure_ (i := 10) (N := some 205) (v := ?_) (a' := ?_) (ob 14 2047) rfl rfl (by kernel_rfl) (fun _ _ _ h => h) (Or.inl ⟨by rfl, ?_⟩) ?_ ?_
      rotate_left
      ·intro w'
       go_simp
       with_reducible rfl
      rotate_left
      ·simp only [Act.put, List.setIfInBounds_toArray, List.set_cons_zero, List.set_cons_succ, i64_w, i32_w]
       rfl
      refine pure_ (i := 11) (N := some 206) (v := ?_) (a' := ?_) (ob 14 4095) rfl rfl (by kernel_rfl) (fun _ _ _ h => h) (Or.inl ⟨by rfl, ?_⟩) ?_ ?_
      rotate_left
      ·intro w'
       go_simp
       with_reducible rfl
      rotate_left
      ·simp only [Act.put, List.setIfInBounds_toArray, List.set_cons_zero, List.set_cons_succ, i64_w, i32_w]
       rfl
      refine pure_ (i := 12) (N := some 14) (v := ?_) (a' := ?_) (ob 14 8191) rfl rfl (by kernel_rfl) (fun _ _ _ h => h) (Or.inl ⟨by rfl, ?_⟩) ?_ ?_
      rotate_left
      ·intro w'
       go_simp
       with_reducible rfl
      rotate_left
      ·simp only [Act.put, List.setIfInBounds_toArray, List.set_cons_zero, List.set_cons_succ, i64_w, i32_w]
       rfl
      refine pure_ (i := 13) (N := some 15) (v := ?_) (a' := ?_) (ob 14 16383) rfl rfl (by kernel_rfl) (fun _ _ _ h => h) (Or.inl ⟨by rfl, ?_⟩) ?_ ?_
      rotate_left
      ·intro w'
       go_simp
       with_reducible rfl
      rotate_left
      ·simp only [Act.put, List.setIfInBounds_toArray, List.set_cons_zero, List.set_cons_succ, i64_w, i32_w]
       rfl
      refine done_ (by kernel_rfl) ?_
      clear hHeld
      go_upto_region 27 with (fail)
      have n1 := Aside0.mk HP.out.drew
      have n2 := Aside0.mk (show (W13.drew).heap[gx]? = some (.cells #[.string x.f0, .string x.f1, .string x.f2, .string x.f3, .int .i64 x.f4, .int .i64 x.f5.f0, .bool x.f5.f1, .int .i64 x.f5.f2, .string x.f5.f3, .slice A9 x.f5.f4.length c9, .slice A10 x.f5.f5.length c10, .string x.f6, .slice A12 x.f7.length c12] 39 (0, 0)) from BX.out)
      clear HP BX
      have HP := n1
      have BX := n2
      clear n1 n2
      refine start_ (n := 17) (S := fun w' => w'.cell? ⟨g, 1, none⟩ = some (.slice (some ad1) l1.length c1) ∧ w'.cell? ⟨(ad1.add (q.toNat * 13)).block, (ad1.add (q.toNat * 13)).off + 3, none⟩ = some (.string y.f3) ∧ w'.cell? ⟨gx, 3, none⟩ = some (.string x.f3)) (ds := []) #[false, false, false, false, false, false, false, false, false, false, false, false, false, false, false, false, false] (by kernel_rfl) rfl rfl ⟨(blk_cell HP.out.Q 1), ((HP.out.B.cell (World.block_lt_of_cell? w _ Z3.out)).trans Z3.out), (blk_cell BX.out 3)⟩ (fun hHeld => ?_)
      generalize W13.drew = W14 at HP BX hHeld ⊢
      refine pure_ (i := 0) (N := some 207) (v := ?_) (a' := ?_) (ob 17 1) rfl rfl (by kernel_rfl) (fun _ _ _ h => h) (Or.inl ⟨by rfl, ?_⟩) ?_ ?_
      rotate_left
      ·intro w'
       go_simp
       with_reducible rfl
      rotate_left
      ·simp only [Act.put, List.setIfInBounds_toArray, List.set_cons_zero, List.set_cons_succ, i64_w, i32_w]
       rfl
      refine pure_ (i := 1) (N := some 208) (v := ?_) (a' := ?_) (ob 17 3) rfl rfl (by kernel_rfl) (fun _ _ _ h => h) (Or.inl ⟨by rfl, ?_⟩) ?_ ?_
      rotate_left
      ·intro w'
       go_simp
       with_reducible rfl
      rotate_left
      ·simp only [Act.put, List.setIfInBounds_toArray, List.set_cons_zero, List.set_cons_succ, i64_w, i32_w]
       rfl
      refine pure_ (i := 2) (N := some 209) (v := ?_) (a' := ?_) (ob 17 7) rfl rfl (by kernel_rfl) (fun _ _ _ h => h) (Or.inl ⟨by rfl, ?_⟩) ?_ ?_
      rotate_left
      ·intro w'
       go_simp
       with_reducible rfl
      rotate_left
      ·simp only [Act.put, List.setIfInBounds_toArray, List.set_cons_zero, List.set_cons_succ, i64_w, i32_w]
       rfl
      refine pure_ (i := 3) (N := some 210) (v := ?_) (a' := ?_) (ob 17 15) rfl rfl (by kernel_rfl) (fun _ _ _ h => h) (Or.inl ⟨by rfl, ?_⟩) ?_ ?_
      rotate_left
      ·intro w'
       go_simp
       with_reducible rfl
      rotate_left
      ·simp only [Act.put, List.setIfInBounds_toArray, List.set_cons_zero, List.set_cons_succ, i64_w, i32_w]
       rfl
      refine pure_ (i := 4) (N := some 211) (v := ?_) (a' := ?_) (ob 17 31) rfl rfl (by kernel_rfl) (fun _ _ _ h => h) (Or.inl ⟨by rfl, ?_⟩) ?_ ?_
      rotate_left
      ·intro w'
       go_simp
       with_reducible rfl
      rotate_left
      ·simp only [Act.put, List.setIfInBounds_toArray, List.set_cons_zero, List.set_cons_succ, i64_w, i32_w]
       rfl
      refine pure_ (i := 5) (N := some 212) (v := ?_) (a' := ?_) (ob 17 63) rfl rfl (by kernel_rfl) (fun _ _ _ h => h) (Or.inl ⟨by rfl, ?_⟩) ?_ ?_
      rotate_left
      ·intro w'
       go_simp
       with_reducible rfl
      rotate_left
      ·simp only [Act.put, List.setIfInBounds_toArray, List.set_cons_zero, List.set_cons_succ, i64_w, i32_w]
       rfl
      refine pure_ (i := 6) (N := some 213) (v := ?_) (a' := ?_) (ob 17 127) rfl rfl (by kernel_rfl) (fun _ _ _ h => h) (Or.inl ⟨by rfl, ?_⟩) ?_ ?_
      rotate_left
      ·intro w'
       go_simp
       with_reducible rfl
      rotate_left
      ·simp only [Act.put, List.setIfInBounds_toArray, List.set_cons_zero, List.set_cons_succ, i64_w, i32_w]
       rfl
      refine pure_ (i := 8) (N := some 215) (v := ?_) (a' := ?_) (ob 17 383) rfl rfl (by kernel_rfl) (fun _ _ _ h => h) (Or.inl ⟨by rfl, ?_⟩) ?_ ?_
      rotate_left
      ·intro w'
       go_simp
       with_reducible rfl
      rotate_left
      ·simp only [Act.put, List.setIfInBounds_toArray, List.set_cons_zero, List.set_cons_succ, i64_w, i32_w]
       rfl
      refine pure_ (i := 12) (N := some 219) (v := ?_) (a' := ?_) (ob 17 4479) rfl rfl (by kernel_rfl) (fun _ _ _ h => h) (Or.inl ⟨by rfl, ?_⟩) ?_ ?_
      rotate_left
      ·intro w'
       go_simp
       with_reducible rfl
      rotate_left
      ·simp only [Act.put, List.setIfInBounds_toArray, List.set_cons_zero, List.set_cons_succ, i64_w, i32_w]
       rfl
      refine take_ (i := 7) (N := some 214) (v := ?_) (a' := ?_) (ob 17 4607) rfl rfl (by kernel_rfl) (fun _ _ _ h => h) (Or.inl ⟨by rfl, ?_⟩) hHeld ?_ ?_
      rotate_left
      ·rintro w' ⟨s0, s1, s2⟩
       go_simp
       with_reducible rfl
      rotate_left
      ·simp only [Act.put, List.setIfInBounds_toArray, List.set_cons_zero, List.set_cons_succ, i64_w, i32_w]
       rfl
      refine pure_ (i := 9) (N := some 216) (v := ?_) (a' := ?_) (ob 17 5119) rfl rfl (by kernel_rfl) (fun _ _ _ h => h) (Or.inl ⟨by rfl, ?_⟩) ?_ ?_
      rotate_left
      ·intro w'
       go_simp
       with_reducible rfl
      rotate_left
      ·simp only [Act.put, List.setIfInBounds_toArray, List.set_cons_zero, List.set_cons_succ, i64_w, i32_w]
       rfl
      refine pure_ (i := 10) (N := some 217) (v := ?_) (a' := ?_) (ob 17 6143) rfl rfl (by kernel_rfl) (fun _ _ _ h => h) (Or.inl ⟨by rfl, ?_⟩) ?_ ?_
      rotate_left
      ·intro w'
       go_simp
       with_reducible rfl
      rotate_left
      ·simp only [Act.put, List.setIfInBounds_toArray, List.set_cons_zero, List.set_cons_succ, i64_w, i32_w]
       rfl
      refine take_ (i := 11) (N := some 218) (v := ?_) (a' := ?_) (ob 17 8191) rfl rfl (by kernel_rfl) (fun _ _ _ h => h) (Or.inl ⟨by rfl, ?_⟩) hHeld ?_ ?_
      rotate_left
      ·rintro w' ⟨s0, s1, s2⟩
       go_simp
       with_reducible rfl
      rotate_left
      ·simp only [Act.put, List.setIfInBounds_toArray, List.set_cons_zero, List.set_cons_succ, i64_w, i32_w]
       rfl
      refine take_ (i := 13) (N := some 220) (v := ?_) (a' := ?_) (ob 17 16383) rfl rfl (by kernel_rfl) (fun _ _ _ h => h) (Or.inl ⟨by rfl, ?_⟩) hHeld ?_ ?_
      rotate_left
      ·rintro w' ⟨s0, s1, s2⟩
       go_simp
       with_reducible rfl
      rotate_left
      ·simp only [Act.put, List.setIfInBounds_toArray, List.set_cons_zero, List.set_cons_succ, i64_w, i32_w]
       rfl
      refine one_ (i := 14) (N := some 221) (ob 17 32767) rfl rfl (by kernel_rfl) (by decide) (fun K hK => ?_)
      refine goes_ Tryd.func24 (by kernel_rfl) rfl #[.string y.f3, .string x.f3] (by rfl) rfl rfl (by simp only [List.map_toArray, List.map_cons, List.map_nil]; rfl) ?_
      with_reducible refine (tree_oneMore.calls y.f3 x.f3 bm _ HBM.out).mono ?_
      rintro ee w_ ⟨rfl, ⟨nd, rfl⟩⟩
      refine ⟨_, rfl, ?_⟩
      have n1 := Aside0.mk (HP.out.drewN nd)
      have n2 := Aside0.mk (show (W14.drewN nd).heap[gx]? = some (.cells #[.string x.f0, .string x.f1, .string x.f2, .string x.f3, .int .i64 x.f4, .int .i64 x.f5.f0, .bool x.f5.f1, .int .i64 x.f5.f2, .string x.f5.f3, .slice A9 x.f5.f4.length c9, .slice A10 x.f5.f5.length c10, .string x.f6, .slice A12 x.f7.length c12] 39 (0, 0)) from BX.out)
      clear HP BX
      have HP := n1
      have BX := n2
      clear n1 n2
      generalize W14.drewN nd = W15 at HP BX ⊢
      refine hK.out _ _ ⟨(blk_cell HP.out.Q 1), ((HP.out.B.cell (World.block_lt_of_cell? w _ Z3.out)).trans Z3.out), (blk_cell BX.out 3)⟩ (fun hHeld => ?_)
      clear hK K
      refine norm_ (a' := ?_) ?_ ?_
      rotate_left
      ·show Act.put _ (some 221) _ = _
       simp only [Act.put, List.setIfInBounds_toArray, List.set_cons_zero, List.set_cons_succ, i64_w, i32_w]
       rfl
      refine pure_ (i := 15) (N := some 222) (v := ?_) (a' := ?_) (ob 17 65535) rfl rfl (by kernel_rfl) (fun _ _ _ h => h) (Or.inl ⟨by rfl, ?_⟩) ?_ ?_
      rotate_left
      ·intro w'
       go_simp
       with_reducible rfl
      rotate_left
      ·simp only [Act.put, List.setIfInBounds_toArray, List.set_cons_zero, List.set_cons_succ, i64_w, i32_w]
       rfl
      refine pure_ (i := 16) (N := some 223) (v := ?_) (a' := ?_) (ob 17 131071) rfl rfl (by kernel_rfl) (fun _ _ _ h => h) (Or.inl ⟨by rfl, ?_⟩) ?_ ?_
      rotate_left
      ·intro w'
       go_simp
       with_reducible rfl
      rotate_left
      ·simp only [Act.put, List.setIfInBounds_toArray, List.set_cons_zero, List.set_cons_succ, i64_w, i32_w]
       rfl
      refine done_ (by kernel_rfl) ?_
      clear hHeld
      have T1 := HC3.out
      clear HC3
      cases bm
      case false =>
       cases T1
       go_wp2_with fail
       go_ret
       exact ⟨rfl, HP.out⟩
      rw [if_pos rfl] at T1
      have y0 : W15.cell? ⟨g, 0, none⟩ = some (.slice A0 l0.length c0) := (blk_cell HP.out.Q 0).trans rfl
      have y1 : W15.cell? ⟨g, 1, none⟩ = some (.slice (some ad1) l1.length c1) := (blk_cell HP.out.Q 1).trans rfl
      have y2 : W15.cell? ⟨g, 2, none⟩ = some (.map (some b1)) := (blk_cell HP.out.Q 2).trans rfl
      have y3 : W15.cell? ⟨g, 3, none⟩ = some (.map (some b2)) := (blk_cell HP.out.Q 3).trans rfl
      have y4 : W15.cell? ⟨g, 4, none⟩ = some (.map (some b3)) := (blk_cell HP.out.Q 4).trans rfl
      have x0 : W15.cell? ⟨gx, 0, none⟩ = some (.string x.f0) := (blk_cell BX.out 0).trans rfl
      have x1 : W15.cell? ⟨gx, 1, none⟩ = some (.string x.f1) := (blk_cell BX.out 1).trans rfl
      have x2 : W15.cell? ⟨gx, 2, none⟩ = some (.string x.f2) := (blk_cell BX.out 2).trans rfl
      have x3 : W15.cell? ⟨gx, 3, none⟩ = some (.string x.f3) := (blk_cell BX.out 3).trans rfl
      have x4 : W15.cell? ⟨gx, 4, none⟩ = some (.int .i64 x.f4) := (blk_cell BX.out 4).trans rfl
      have x5 : W15.cell? ⟨gx, 5, none⟩ = some (.int .i64 x.f5.f0) := (blk_cell BX.out 5).trans rfl
      have x6 : W15.cell? ⟨gx, 6, none⟩ = some (.bool x.f5.f1) := (blk_cell BX.out 6).trans rfl
      have x7 : W15.cell? ⟨gx, 7, none⟩ = some (.int .i64 x.f5.f2) := (blk_cell BX.out 7).trans rfl
      have x8 : W15.cell? ⟨gx, 8, none⟩ = some (.string x.f5.f3) := (blk_cell BX.out 8).trans rfl
      have x9 : W15.cell? ⟨gx, 9, none⟩ = some (.slice A9 x.f5.f4.length c9) := (blk_cell BX.out 9).trans rfl
      have x10 : W15.cell? ⟨gx, 10, none⟩ = some (.slice A10 x.f5.f5.length c10) := (blk_cell BX.out 10).trans rfl
      have x11 : W15.cell? ⟨gx, 11, none⟩ = some (.string x.f6) := (blk_cell BX.out 11).trans rfl
      have x12 : W15.cell? ⟨gx, 12, none⟩ = some (.slice A12 x.f7.length c12) := (blk_cell BX.out 12).trans rfl
      unfold pg_files at T1
      have HF := Aside0.mk T1
      clear T1
      go_wp2_with (go_at_call 25; refine (tree_filesFault.calls k x.f0 x.f1 x.f2 x.f3 x.f4 x.f5.f0 x.f5.f1 x.f5.f2 x.f5.f3 A9 c9 x.f5.f4 A10 c10 x.f5.f5 x.f6 A12 c12 x.f7 _ _ (Kd.C_below HK9.out HP.out.B) HL9.out (Kd.C_below HK10.out HP.out.B) HL10.out (Kd.C_below HK12.out HP.out.B) HL12.out HF.out).mono ?_; rintro ee W20 ⟨rfl, hb⟩; have HP2 := Aside0.mk (HP.out.below hb); clear hb)
      go_ret
      exact ⟨rfl, HP2.out⟩
end Go.Proofs.YtcgmieeojngceaaDoor.PTreeTranslates
