/- For the law ConfMends: changes, the two rows of a differ, what a call of diff leaves as it was. No condition. -/
import Derived.Test.YtlofkjdcapbohaaGreatDoorCfV
namespace Go.Proofs.YtlofkjdcapbohaaGreatDoor.PConfKeeps
open Go.RowKit Go.Proofs.YtlofkjdcapbohaaGreatDoorW.PrintWords Go.Proofs.YtlofkjdcapbohaaGreatDoorW.PrintLast Go.Proofs.YtlofkjdcapbohaaGreatDoorW.PrintMore
set_option linter.unusedVariables false
set_option linter.unusedSimpArgs false
structure S69 where
  f0 : ByteArray
  f1 : S25
  f2 : Bool
def z69 : S69 := ⟨⟨#[]⟩, z25, false⟩
def k69 : Kd S69 := Kd.iso (Kd.pair Kd.string (Kd.pair k25 Kd.bool)) (fun x : S69 => (x.f0, x.f1, x.f2))
theorem k69_mkF (W : World) (ok : Nat → Prop) (x : S69) {A4 : Option Addr} {c4 : Nat} {A5 : Option Addr} {c5 : Nat} (g : RdF W ok x.f1 A4 c4 A5 c5) : Kd.FK k69 W ok x [.string x.f0, .int .i64 x.f1.f0, .bool x.f1.f1, .int .i64 x.f1.f2, .string x.f1.f3, .slice A4 x.f1.f4.length c4, .slice A5 x.f1.f5.length c5, .bool x.f2] := fun W2 hW =>
  ⟨_, _, rfl, rfl, ⟨_, _, rfl, k25_mkF W ok x.f1 g.2.1 g.1 g.2.2.2 g.2.2.1 W2 hW, rfl⟩⟩
theorem info69' : (Tryz.prog.info? 69).map (fun i => (i.zero, i.size, i.bytes)) = some (some (.agg #[.string ⟨#[]⟩, .int .i64 0, .bool false, .int .i64 0, .string ⟨#[]⟩, .slice none 0 0, .slice none 0 0, .bool false]), 8, 112) := by kernel_rfl
theorem k69_open {w : World} {x : S69} {cs : List Value} (h : k69.K w x cs) : ∃ A4 c4 A5 c5, cs = [.string x.f0, .int .i64 x.f1.f0, .bool x.f1.f1, .int .i64 x.f1.f2, .string x.f1.f3, .slice A4 x.f1.f4.length c4, .slice A5 x.f1.f5.length c5, .bool x.f2] ∧ Rd w x.f1 A4 c4 A5 c5 := by
  obtain ⟨_, _, rfl, rfl, ⟨_, _, rfl, s1, rfl⟩⟩ := h
  obtain ⟨A4, c4, A5, c5, rfl, l4, g4, l5, g5⟩ := k25_open s1
  exact ⟨A4, c4, A5, c5, rfl, g4, l4, g5, l5⟩
def rd_T69 (xs : List S69) (i : Int) : S69 := xs.getD i.toNat z69
theorem at_T69 {w : World} {A : Option Addr} {n : Nat} {xs : List S69} (h : Kd.C k69 w A n xs) (i : Int) (h0 : 0 ≤ i) (h1 : i < n) : ∃ ad A4 c4 A5 c5, A = some ad ∧ w.cell? (ad.add (i.toNat * 8)) = some (.string (rd_T69 xs i).f0) ∧ w.cell? ⟨(ad.add (i.toNat * 8)).block, (ad.add (i.toNat * 8)).off + 1, none⟩ = some (.int .i64 (rd_T69 xs i).f1.f0) ∧ w.cell? ⟨(ad.add (i.toNat * 8)).block, (ad.add (i.toNat * 8)).off + 2, none⟩ = some (.bool (rd_T69 xs i).f1.f1) ∧ w.cell? ⟨(ad.add (i.toNat * 8)).block, (ad.add (i.toNat * 8)).off + 3, none⟩ = some (.int .i64 (rd_T69 xs i).f1.f2) ∧ w.cell? ⟨(ad.add (i.toNat * 8)).block, (ad.add (i.toNat * 8)).off + 4, none⟩ = some (.string (rd_T69 xs i).f1.f3) ∧ w.cell? ⟨(ad.add (i.toNat * 8)).block, (ad.add (i.toNat * 8)).off + 5, none⟩ = some (.slice A4 (rd_T69 xs i).f1.f4.length c4) ∧ w.cell? ⟨(ad.add (i.toNat * 8)).block, (ad.add (i.toNat * 8)).off + 6, none⟩ = some (.slice A5 (rd_T69 xs i).f1.f5.length c5) ∧ w.cell? ⟨(ad.add (i.toNat * 8)).block, (ad.add (i.toNat * 8)).off + 7, none⟩ = some (.bool (rd_T69 xs i).f2) ∧ Rd w (rd_T69 xs i).f1 A4 c4 A5 c5 := by
  obtain ⟨ad, c, e, _, hK, hc0⟩ := Kd.C_get h z69 i h0 h1
  have hc : ∀ j u, c[j]? = some u → w.cell? (ad.add (i.toNat * 8 + j)) = some u := hc0
  obtain ⟨A4, c4, A5, c5, rfl, hrd⟩ := k69_open hK
  exact ⟨ad, A4, c4, A5, c5, e, hc 0 _ rfl, by rw [← add_field _ _ 1 (by omega)]; exact hc 1 _ rfl, by rw [← add_field _ _ 2 (by omega)]; exact hc 2 _ rfl, by rw [← add_field _ _ 3 (by omega)]; exact hc 3 _ rfl, by rw [← add_field _ _ 4 (by omega)]; exact hc 4 _ rfl, by rw [← add_field _ _ 5 (by omega)]; exact hc 5 _ rfl, by rw [← add_field _ _ 6 (by omega)]; exact hc 6 _ rfl, by rw [← add_field _ _ 7 (by omega)]; exact hc 7 _ rfl, hrd⟩
/-- a differ in block bd, and its two rows -/
structure DS (B0 bd : Nat) (W : World) (vG vO : Value) (xG xO : List S69) : Prop where
  D : W.heap[bd]? = some (.cells #[vG, vO] 66 (0, 0))
  lo : B0 ≤ bd
  G : Kd.N k69 69 W B0 (fun k => k ≠ bd ∧ some k ≠ vO.ownBlock) vG xG
  O : Kd.N k69 69 W B0 (fun k => k ≠ bd ∧ some k ≠ vG.ownBlock) vO xO
/-- what was there is so, but for the differ's block and its rows -/
structure Fr (w W : World) (bd : Nat) (vG vO uG uO : Value) : Prop where
  os : W.os = w.os
  tape : W.tape = w.tape
  output : W.output = w.output
  size : w.heap.size ≤ W.heap.size
  block : ∀ k, k < w.heap.size → k ≠ bd → some k ≠ vG.ownBlock → some k ≠ vO.ownBlock → W.heap[k]? = w.heap[k]?
  tG : uG.ownBlock = vG.ownBlock ∨ ∃ b, uG.ownBlock = some b ∧ w.heap.size ≤ b
  tO : uO.ownBlock = vO.ownBlock ∨ ∃ b, uO.ownBlock = some b ∧ w.heap.size ≤ b
section
variable {w W W1 : World} {B0 bd : Nat} {vG vO uG uO tG tO : Value} {xG xO : List S69}
theorem Fr.refl (w : World) (bd : Nat) (vG vO : Value) : Fr w w bd vG vO vG vO := ⟨rfl, rfl, rfl, Nat.le_refl _, fun _ _ _ _ _ => rfl, .inl rfl, .inl rfl⟩
theorem Fr.trans (h : Fr w W bd vG vO uG uO) (k : Fr W W1 bd uG uO tG tO) : Fr w W1 bd vG vO tG tO := by
  refine ⟨k.os.trans h.os, k.tape.trans h.tape, k.output.trans h.output, Nat.le_trans h.size k.size, fun i hi hb hg ho => ?_, ?_, ?_⟩
  · refine (k.block i (Nat.lt_of_lt_of_le hi h.size) hb (fun he => ?_) (fun he => ?_)).trans (h.block i hi hb hg ho)
    · rcases h.tG with t | ⟨b, t, hb'⟩
      · exact hg (he.trans t)
      · rw [t] at he; injection he with he; omega
    · rcases h.tO with t | ⟨b, t, hb'⟩
      · exact ho (he.trans t)
      · rw [t] at he; injection he with he; omega
  · rcases k.tG with t | ⟨b, t, hb⟩
    · rcases h.tG with t' | ⟨b', t', hb'⟩
      · exact .inl (t.trans t')
      · exact .inr ⟨b', t.trans t', hb'⟩
    · exact .inr ⟨b, t, Nat.le_trans h.size hb⟩
  · rcases k.tO with t | ⟨b, t, hb⟩
    · rcases h.tO with t' | ⟨b', t', hb'⟩
      · exact .inl (t.trans t')
      · exact .inr ⟨b', t.trans t', hb'⟩
    · exact .inr ⟨b, t, Nat.le_trans h.size hb⟩
theorem Fr.of_below (hb : Below W.heap.size W W1) : Fr W W1 bd vG vO vG vO := ⟨hb.os, hb.tape, hb.output, hb.size, fun k hk _ _ _ => hb.block k hk, .inl rfl, .inl rfl⟩
theorem Fr.below (h : Fr w W bd vG vO uG uO) (hb : Below W.heap.size W W1) : Fr w W1 bd vG vO uG uO := h.trans (Fr.of_below hb)
theorem DS.base (h : DS B0 bd W vG vO xG xO) : (∀ k, vG.ownBlock = some k → B0 ≤ k) ∧ ∀ k, vO.ownBlock = some k → B0 ≤ k := ⟨Kd.N_base h.G, Kd.N_base h.O⟩
theorem Fr.old (h : Fr w W bd vG vO uG uO) (hd : DS B0 bd w vG vO xG xO) (hs : B0 ≤ w.heap.size) : Below B0 w W :=
  ⟨h.os, h.tape, h.output, h.size, fun k hk => h.block k (Nat.lt_of_lt_of_le hk hs) (fun he => by have := hd.lo; omega) (fun he => by have := hd.base.1 k he.symm; omega) (fun he => by have := hd.base.2 k he.symm; omega)⟩
theorem DS.below (h : DS B0 bd W vG vO xG xO) (hb : Below W.heap.size W W1) : DS B0 bd W1 vG vO xG xO := ⟨blk_below h.D hb, h.lo, Kd.N_below h.G hb, Kd.N_below h.O hb⟩
/-- a block of another kind is left as it was -/
theorem Fr.blk {g t : Nat} {cs : Array Value} (h : Fr W W1 bd vG vO uG uO) (hd : DS B0 bd W vG vO xG xO) (hg : W.heap[g]? = some (.cells cs t (0, 0))) (h66 : t ≠ 66) (h69 : t ≠ 69) : W1.heap[g]? = some (.cells cs t (0, 0)) := by
  refine (h.block g (blk_lt hg) (fun he => ?_) (Kd.N_ne hd.G hg (fun he => h69 he.symm)) (Kd.N_ne hd.O hg (fun he => h69 he.symm))).trans hg
  have h1 := hd.D
  rw [← he, hg] at h1
  injection h1 with h1
  injection h1 with _ h1 _
  exact h66 h1
theorem Bs.fr {w0 : World} {l : List (Nat × Array Value × Nat)} (hz : w0.heap.size = 0) (h : Bs w0 W l) (hd : DS B0 bd W vG vO xG xO) (hf : Fr W W1 bd vG vO uG uO) (ht : l.all (fun p => p.2.2 == 25) = true) : Bs w0 W1 l := by
  refine ⟨fun i p hp => hf.blk hd (h.blk i p hp) ?_ ?_, ⟨hf.os.trans h.B.os, hf.tape.trans h.B.tape, hf.output.trans h.B.output, by rw [hz]; exact Nat.zero_le _, fun k hk => by rw [hz] at hk; omega⟩, h.ge, h.nd⟩
  · have := List.all_eq_true.1 ht p (List.mem_of_getElem? hp); rw [beq_iff_eq] at this; omega
  · have := List.all_eq_true.1 ht p (List.mem_of_getElem? hp); rw [beq_iff_eq] at this; omega
theorem Bs.start (w : World) : Bs { w with heap := #[] } w [] := ⟨fun _ _ h => by simp at h, ⟨rfl, rfl, rfl, Nat.zero_le _, fun k hk => absurd hk (Nat.not_lt_zero _)⟩, fun _ _ h => by simp at h, fun _ _ _ _ _ h => by simp at h⟩
theorem RdF.old {v : S25} {A4 : Option Addr} {c4 : Nat} {A5 : Option Addr} {c5 : Nat} (h : RdF w (fun k => k < B0) v A4 c4 A5 c5) (hb : Below B0 w W) : RdF W (fun k => k < B0) v A4 c4 A5 c5 := h.step (fun k hk _ => hb.block k hk)
/-- one more change in the row of what is gone -/
theorem DS.pushG (h : DS B0 bd W vG vO xG xO) {u : Value} {ys : List S69} (hn : Kd.N k69 69 W1 B0 (fun k => k ≠ bd ∧ some k ≠ vO.ownBlock) u ys) (hg : W.grownBy W1 vG.ownBlock) (hat : u.ownBlock = vG.ownBlock ∨ ∃ b, u.ownBlock = some b ∧ W.heap.size ≤ b) :
    DS B0 bd (W1.setCell ⟨bd, 0, none⟩ u) u vO ys xO ∧ Fr W (W1.setCell ⟨bd, 0, none⟩ u) bd vG vO u vO := by
  have hD1 := blk_grown h.D hg (fun he => (h.G.1 bd he.symm).1 rfl)
  refine ⟨⟨blk_put (cs' := #[u, vO]) hD1 0 u rfl, h.lo, Kd.N_far hn (fun k hk => hk.1) _, Kd.N_far (Kd.N_after h.O hg hat) (fun k hk => hk.1) _⟩, ⟨hg.os, hg.tape, hg.output, Nat.le_trans hg.size ((Below.refl 0 W1).setCell (p := ⟨bd, 0, none⟩) (Nat.zero_le _) u).size, fun k hk hb h1 h2 => (Below.heap_setCell _ _ _ _ hb).trans (hg.block k hk h1), hat, .inl rfl⟩⟩
theorem DS.pushO (h : DS B0 bd W vG vO xG xO) {u : Value} {ys : List S69} (hn : Kd.N k69 69 W1 B0 (fun k => k ≠ bd ∧ some k ≠ vG.ownBlock) u ys) (hg : W.grownBy W1 vO.ownBlock) (hat : u.ownBlock = vO.ownBlock ∨ ∃ b, u.ownBlock = some b ∧ W.heap.size ≤ b) :
    DS B0 bd (W1.setCell ⟨bd, 1, none⟩ u) vG u xG ys ∧ Fr W (W1.setCell ⟨bd, 1, none⟩ u) bd vG vO vG u := by
  have hD1 := blk_grown h.D hg (fun he => (h.O.1 bd he.symm).1 rfl)
  refine ⟨⟨blk_put (cs' := #[vG, u]) hD1 1 u rfl, h.lo, Kd.N_far (Kd.N_after h.G hg hat) (fun k hk => hk.1) _, Kd.N_far hn (fun k hk => hk.1) _⟩, ⟨hg.os, hg.tape, hg.output, Nat.le_trans hg.size ((Below.refl 0 W1).setCell (p := ⟨bd, 1, none⟩) (Nat.zero_le _) u).size, fun k hk hb h1 h2 => (Below.heap_setCell _ _ _ _ hb).trans (hg.block k hk h2), .inl rfl, hat⟩⟩
end
/-- Compare in a short form -/
def Fcm (k : Nat) (a b : S25) : Option Int := conf_Compare.f k a.f0 a.f1 a.f2 a.f3 a.f4 a.f5 b.f0 b.f1 b.f2 b.f3 b.f4 b.f5
/-- the items of b, from the i-th on, put into t -/
def cputs (b : S25) : Nat → Nat → S25 → Option S25
  | 0, _, t => some t
  | m + 1, i, t => if i < b.f4.length then (cput t (rdOf ByteArray.empty b.f5 (i : Int)) (rd_T25 b.f4 (i : Int))).bind fun t => cputs b m (i + 1) t else none
/-- one key's changes -/
def cone (rec_ : S25 → S25 → ByteArray → Option (List S69 × List S69)) (k : Nat) (a b : S25) (key q : ByteArray) : Option (List S69 × List S69) :=
  (conf_find.f a.f0 a.f1 a.f2 a.f3 a.f4 a.f5 key).bind fun ia => (conf_find.f b.f0 b.f1 b.f2 b.f3 b.f4 b.f5 key).bind fun ib =>
    if ib.2 = false then some ([⟨q, z25, true⟩], [])
    else if 0 ≤ ib.1 ∧ ib.1 < (b.f4.length : Int) then
      (if ia.2 = false then (Fcl k (rd_T25 b.f4 ib.1)).bind fun x => some ([], [⟨q, x, false⟩])
       else if 0 ≤ ia.1 ∧ ia.1 < (a.f4.length : Int) then rec_ (rd_T25 a.f4 ia.1) (rd_T25 b.f4 ib.1) q else none) else none
def ckeys (rec_ : S25 → S25 → ByteArray → Option (List S69 × List S69)) (k : Nat) (a b : S25) (route : ByteArray) (ks : List ByteArray) : Nat → Nat → Option (List S69 × List S69)
  | 0, _ => some ([], [])
  | m + 1, i => (conf_joined.f route (rdOf ByteArray.empty ks (i : Int))).bind fun q => (cone rec_ k a b (rdOf ByteArray.empty ks (i : Int)) q).bind fun p => (ckeys rec_ k a b route ks m (i + 1)).bind fun r => some (p.1 ++ r.1, p.2 ++ r.2)
def cdiff (k : Nat) : Nat → S25 → S25 → ByteArray → Option (List S69 × List S69)
  | 0, _, _, _ => none
  | n + 1, a, b, route => (Fcm k a b).bind fun c => if c = 0 then some ([], []) else if a.f0 ≠ 6 ∨ b.f0 ≠ 6 then (Fcl k b).bind fun x => some ([], [⟨route, x, false⟩]) else
      (cputs b b.f5.length 0 a).bind fun all => if b.f5.length ≤ 1000000 ∧ all.f5.length ≤ 1000000 then ckeys (cdiff k n) k a b route all.f5 all.f5.length 0 else none
end Go.Proofs.YtlofkjdcapbohaaGreatDoor.PConfKeeps
