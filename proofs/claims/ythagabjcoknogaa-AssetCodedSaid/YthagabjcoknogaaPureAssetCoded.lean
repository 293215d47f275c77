/- What is written in base 64 by Encode64 is read back by Decode64, for every string; no condition. -/
import Derived.Test.YthagabjcoknogaaPAssetCodedx2
namespace Go.Proofs.Ythagabjcoknogaa.Pure
open Go.RowKit Go.Proofs.Ythagabjcoknogaa.PAssetCoded Go.Proofs.YthagabjcoknogaaW.PrintWords Go.Proofs.YthagabjcoknogaaW.PrintLast Go.Proofs.YthagabjcoknogaaW.PrintMore

theorem w64 {n : Int} (h0 : -9223372036854775808 ≤ n) (h1 : n < 9223372036854775808) : wrap64 n = n := by unfold wrap64; omega
theorem mn_l {a b : Int} (h : a ≤ b) : mn a b = a := by unfold mn; rw [if_neg (by omega)]
theorem mn_r {a b : Int} (h : b ≤ a) : mn a b = b := by unfold mn; split <;> omega

def dg (j : Int) : Int := bt (⟨#[65, 66, 67, 68, 69, 70, 71, 72, 73, 74, 75, 76, 77, 78, 79, 80, 81, 82, 83, 84, 85, 86, 87, 88, 89, 90, 97, 98, 99, 100, 101, 102, 103, 104, 105, 106, 107, 108, 109, 110, 111, 112, 113, 114, 115, 116, 117, 118, 119, 120, 121, 122, 48, 49, 50, 51, 52, 53, 54, 55, 56, 57, 45, 95]⟩ : ByteArray) j
theorem dg_range (j : Int) : 0 ≤ dg j ∧ dg j ≤ 255 := bt_range _ _
theorem idx_fin : ∀ j : Fin 64, Lib.indexByte (⟨#[65, 66, 67, 68, 69, 70, 71, 72, 73, 74, 75, 76, 77, 78, 79, 80, 81, 82, 83, 84, 85, 86, 87, 88, 89, 90, 97, 98, 99, 100, 101, 102, 103, 104, 105, 106, 107, 108, 109, 110, 111, 112, 113, 114, 115, 116, 117, 118, 119, 120, 121, 122, 48, 49, 50, 51, 52, 53, 54, 55, 56, 57, 45, 95]⟩ : ByteArray).data.toList (dg (j.val : Int)).toNat.toUInt8 = (j.val : Int) := by decide +kernel
theorem idx_dg {j : Int} (h0 : 0 ≤ j) (h1 : j < 64) : strings_IndexByte.f (⟨#[65, 66, 67, 68, 69, 70, 71, 72, 73, 74, 75, 76, 77, 78, 79, 80, 81, 82, 83, 84, 85, 86, 87, 88, 89, 90, 97, 98, 99, 100, 101, 102, 103, 104, 105, 106, 107, 108, 109, 110, 111, 112, 113, 114, 115, 116, 117, 118, 119, 120, 121, 122, 48, 49, 50, 51, 52, 53, 54, 55, 56, 57, 45, 95]⟩ : ByteArray) (dg j) = some j := by
  obtain ⟨n, rfl⟩ := Int.eq_ofNat_of_zero_le h0
  exact congrArg some (idx_fin ⟨n, by omega⟩)

theorem and63 {x : Int} (h0 : 0 ≤ x) (h1 : x < 4294967296) : Go.bits .and .i64 x 63 = x % 64 := by
  refine bits_mask .i64 32 (by decide) (fun n a b => ?_) 6 (by decide) x h0 (by omega)
  rw [IntKind.wrap_i64]; omega

theorem shr_at {x : Int} (y n : Nat) (h : y ≤ 64) (hn : (2 : Int) ^ y = n) : shr .i64 x (y : Int) = x / n := by
  unfold shr
  have : min ((y : Int).toNat) IntKind.i64.bits = y := by
    show min ((y : Int).toNat) 64 = y
    rw [Int.toNat_natCast]; omega
  rw [this, hn]

/-! the text written, as a list of numbers -/
theorem size_str (T : List Int) : (strOfNums T).size = T.length := by
  show (T.map _).toArray.size = _
  rw [List.size_toArray, List.length_map]
theorem bt_str {T : List Int} (hT : ∀ z ∈ T, 0 ≤ z ∧ z ≤ 255) {i : Nat} (h : i < T.length) : bt (strOfNums T) (i : Int) = T[i] := by
  unfold bt
  have hs : (i : Int).toNat < (strOfNums T).size := by rw [size_str]; simpa using h
  rw [dif_pos hs]
  have hz := hT T[i] (List.getElem_mem h)
  show (((strOfNums T).data[(i : Int).toNat]'_).toNat : Int) = T[i]
  simp only [strOfNums, List.getElem_toArray, List.getElem_map, Int.toNat_natCast, UInt8.toNat_ofNat']
  omega
def bys (s : ByteArray) : List Int := s.data.toList.map fun c => (c.toNat : Int)
theorem bys_len (s : ByteArray) : (bys s).length = s.size := by
  show (s.data.toList.map _).length = _
  rw [List.length_map]
  exact data_length s
theorem bys_range (s : ByteArray) : ∀ z ∈ bys s, 0 ≤ z ∧ z ≤ 255 := by
  intro z hz
  simp only [bys, List.mem_map] at hz
  obtain ⟨c, _, rfl⟩ := hz
  have := c.toNat_lt
  omega
theorem str_bys (s : ByteArray) : strOfNums (bys s) = s := by
  cases s with | mk d =>
  have e : ((fun n : Int => UInt8.ofNat n.toNat) ∘ fun c : UInt8 => (c.toNat : Int)) = id := by
    funext c; simp
  simp [strOfNums, bys, e]
theorem bt_bys (s : ByteArray) {i : Nat} (h : i < s.size) : bt s (i : Int) = (bys s)[i]'(by rw [bys_len]; exact h) := by
  have := bt_str (bys_range s) (i := i) (by rw [bys_len]; exact h)
  rwa [str_bys] at this
theorem drop_bys (s : ByteArray) {i : Nat} (h : i < s.size) : (bys s).drop i = bt s (i : Int) :: (bys s).drop (i + 1) := by
  rw [bt_bys s h]
  exact List.drop_eq_getElem_cons (by rw [bys_len]; exact h)

/-! the writer -/
def pick (x0 : ByteArray) (i m t : Int) : Int := if t < m then bt x0 (i + t) else 0
theorem pick_range (x0 : ByteArray) (i m t : Int) : 0 ≤ pick x0 i m t ∧ pick x0 i m t ≤ 255 := by
  unfold pick; split
  · exact bt_range _ _
  · omega
def grp (x0 : ByteArray) (i m : Int) : Int := 65536 * pick x0 i m 0 + 256 * pick x0 i m 1 + pick x0 i m 2

theorem enc_round {x0 : ByteArray} {out : List Int} {i m n t : Int} (h0 : 0 ≤ i) (him : i + m ≤ x0.size) (hsz : x0.size ≤ 20000) (ht0 : 0 ≤ t) (ht : t < 3) (hn0 : 0 ≤ n) (hn : n ≤ 65535) (k : Nat) :
    asset_Encode64.l1 (k + 1) x0 out i n m t = asset_Encode64.l1 k x0 out i (n * 256 + pick x0 i m t) m (t + 1) := by
  have hb := bt_range x0 (i + t)
  simp only [asset_Encode64.l1]
  rw [if_pos ht, w64 (n := t + 1) (by omega) (by omega), w64 (n := n * 256) (by omega) (by omega)]
  unfold pick
  by_cases c : t < m
  · rw [if_pos c, if_pos c, w64 (n := i + t) (by omega) (by omega), if_pos (by omega), if_pos (by omega), w64 (n := bt x0 (i + t)) (by omega) (by omega), w64 (by omega) (by omega)]
  · rw [if_neg c, if_neg c, Int.add_zero]
theorem enc_group {x0 : ByteArray} {out : List Int} {i m : Int} {r : ByteArray × Int} (h0 : 0 ≤ i) (hm : 1 ≤ m) (hm3 : m ≤ 3) (him : i + m ≤ x0.size) (hsz : x0.size ≤ 20000)
    (h : Ev (fun k => asset_Encode64.l2 k x0 out i (grp x0 i m) (m + 1) 0) r) : Ev (fun k => asset_Encode64.l1 k x0 out i 0 m 0) r := by
  have p0 := pick_range x0 i m 0
  have p1 := pick_range x0 i m (0 + 1)
  refine Ev.step (fun k => enc_round h0 him hsz (by omega) (by omega) (by omega) (by omega) k) ?_
  refine Ev.step (fun k => enc_round h0 him hsz (by omega) (by omega) (by omega) (by omega) k) ?_
  refine Ev.step (fun k => enc_round h0 him hsz (by omega) (by omega) (by omega) (by omega) k) ?_
  refine Ev.step (f := fun k => asset_Encode64.l2 k x0 out i (grp x0 i m) (m + 1) 0) (fun k => ?_) h
  simp only [asset_Encode64.l1]
  rw [if_neg (by omega), w64 (n := m + 1) (by omega) (by omega)]
  congr 1
  show ((0 * 256 + pick x0 i m 0) * 256 + pick x0 i m (0 + 1)) * 256 + pick x0 i m (0 + 1 + 1) = grp x0 i m
  unfold grp
  show ((0 * 256 + pick x0 i m 0) * 256 + pick x0 i m 1) * 256 + pick x0 i m 2 = _
  omega
/-- digit t of a group -/
def dig (n : Int) (t : Nat) : Int := n / ((2 : Int) ^ (18 - 6 * t)) % 64
theorem dig_range (n : Int) (t : Nat) : 0 ≤ dig n t ∧ dig n t < 64 := by unfold dig; omega
theorem enc_dig {x0 : ByteArray} {out : List Int} {i n m : Int} {t : Nat} (ht : t < 4) (htm : (t : Int) < m) (hn0 : 0 ≤ n) (hn : n < 16777216) (ho : out.length < 100000) (k : Nat) :
    asset_Encode64.l2 (k + 1) x0 out i n m (t : Int) = asset_Encode64.l2 k x0 (out ++ [dg (dig n t)]) i n m ((t + 1 : Nat) : Int) := by
  simp only [asset_Encode64.l2]
  have e1 : wrap64 (6 * (t : Int)) = 6 * t := w64 (by omega) (by omega)
  have e2 : wrap64 (18 - 6 * (t : Int)) = ((18 - 6 * t : Nat) : Int) := by rw [w64 (by omega) (by omega)]; omega
  have e3 : shr .i64 n ((18 - 6 * t : Nat) : Int) = n / ((2 : Int) ^ (18 - 6 * t)) := by
    have := shr_at (x := n) (18 - 6 * t) (2 ^ (18 - 6 * t)) (by omega) (by simp)
    rw [this]; simp
  have hp : (1 : Int) ≤ (2 : Int) ^ (18 - 6 * t) := by
    have : 0 < (2 : Nat) ^ (18 - 6 * t) := Nat.pow_pos (by omega)
    have e : ((2 ^ (18 - 6 * t) : Nat) : Int) = (2 : Int) ^ (18 - 6 * t) := by simp
    omega
  have hq0 : 0 ≤ n / ((2 : Int) ^ (18 - 6 * t)) := Int.ediv_nonneg hn0 (by omega)
  have hq1 : n / ((2 : Int) ^ (18 - 6 * t)) ≤ n := Int.ediv_le_self _ hn0
  have e4 : Go.bits .and .i64 (n / ((2 : Int) ^ (18 - 6 * t))) 63 = dig n t := and63 hq0 (by omega)
  have hd := dig_range n t
  rw [if_pos htm, e1, e2, if_pos (by omega), e3, e4, if_pos hd.1, if_pos hd.2, if_pos (by omega), w64 (by omega) (by omega)]
  rfl
/-- the digits of a group: one more than its bytes -/
def digs (n : Int) (m : Nat) : List Int := (List.range (m + 1)).map fun t => dg (dig n t)
theorem enc_digs {x0 : ByteArray} {i n : Int} {m : Nat} {r : ByteArray × Int} (hm : m ≤ 3) (hn0 : 0 ≤ n) (hn : n < 16777216) (hi : 0 ≤ i) (hi2 : i ≤ 100000) :
    ∀ (d t : Nat) (out : List Int), t + d = m + 1 → out.length + d < 100000 → Ev (fun k => asset_Encode64.l0 k x0 (out ++ ((List.range' t d).map fun t => dg (dig n t))) (i + 3)) r →
      Ev (fun k => asset_Encode64.l2 k x0 out i n ((m : Int) + 1) (t : Int)) r := by
  intro d
  induction d with
  | zero =>
    intro t out ht ho h
    refine Ev.step (fun k => ?_) h
    simp only [asset_Encode64.l2]
    rw [if_neg (by omega), w64 (by omega) (by omega)]
    simp
  | succ d ih =>
    intro t out ht ho h
    refine Ev.step (fun k => enc_dig (by omega) (by omega) hn0 hn (by omega) k) ?_
    refine ih (t + 1) _ (by omega) (by simp; omega) ?_
    rw [List.range'_succ, List.map_cons] at h
    rw [List.append_assoc, List.singleton_append]
    exact h

/-! the reader -/
theorem dec_round {x : ByteArray} {out : List Int} {i m n v t : Int} (h0 : 0 ≤ i) (him : i + m ≤ x.size) (hsz : x.size ≤ 200000) (ht0 : 0 ≤ t) (ht : t < 4) (hn0 : 0 ≤ n) (hn : n ≤ 262143)
    (hv0 : 0 ≤ v) (hv1 : v < 64) (hv : t < m → bt x (i + t) = dg v) (hv2 : ¬ t < m → v = 0) (k : Nat) :
    asset_Decode64.l1 (k + 1) x out i n m t = asset_Decode64.l1 k x out i (n * 64 + v) m (t + 1) := by
  simp only [asset_Decode64.l1]
  rw [if_pos ht, w64 (n := t + 1) (by omega) (by omega), w64 (n := n * 64) (by omega) (by omega)]
  by_cases c : t < m
  · rw [if_pos c, w64 (n := i + t) (by omega) (by omega), if_pos (by omega), if_pos (by omega), hv c, idx_dg hv0 hv1]
    simp only [Option.bind_some]
    rw [if_neg (by omega), w64 (by omega) (by omega)]
  · rw [if_neg c, hv2 c, Int.add_zero]
theorem dec_zeros {x : ByteArray} {out bs zs : List Int} {i m : Int} {r : ByteArray × Int} (hz : ∀ z ∈ zs, z = 0) (hl : zs.length ≤ 3) (hm0 : 1 ≤ m) (hm1 : m ≤ 4) (hb : bs.length = 3) (ho : out.length < 1000000) (hi0 : 0 ≤ i) (hi1 : i ≤ 1000000)
    (h : Ev (fun k => asset_Decode64.l0 k x (out ++ bs.take (m - 1).toNat) (i + 4)) r) :
    ∀ (d t : Nat), t + d = zs.length → Ev (fun k => asset_Decode64.l2 k x out i m bs zs (zs.length : Int) (t : Int)) r := by
  intro d
  induction d with
  | zero =>
    intro t ht
    refine Ev.step (fun k => ?_) h
    simp only [asset_Decode64.l2]
    have hw : wrap64 (m - 1) = m - 1 := w64 (by omega) (by omega)
    have hlen : (bs.take (m - 1).toNat).length ≤ 3 := by rw [List.length_take]; omega
    rw [if_neg (by omega), hw, if_pos (by omega), if_pos (by omega)]
    simp only [Option.bind_some]
    rw [if_pos (by omega), w64 (by omega) (by omega)]
  | succ d ih =>
    intro t ht
    refine Ev.step (fun k => ?_) (ih (t + 1) (by omega))
    simp only [asset_Decode64.l2]
    have hr : rd zs (t : Int) = 0 := by
      unfold rd
      rw [Int.toNat_natCast, List.getD_eq_getElem?_getD, List.getElem?_eq_getElem (by omega)]
      exact hz _ (List.getElem_mem _)
    rw [if_pos (by omega), if_pos (by omega), if_pos (by omega), if_pos hr, w64 (by omega) (by omega)]
    rfl
def three (n : Int) : List Int := [n / 65536 % 256, n / 256 % 256, n % 256]
theorem dec_group {x : ByteArray} {out : List Int} {i m : Nat} {n : Int} {r : ByteArray × Int} (hm1 : 1 ≤ m) (hm3 : m ≤ 3) (hsz : x.size ≤ 200000) (him : i + (m + 1) ≤ x.size) (hn0 : 0 ≤ n) (hn : n < 16777216)
    (hz : m < 3 → n % 256 = 0) (hz2 : m < 2 → n % 65536 = 0) (hv : ∀ t : Nat, t < m + 1 → bt x ((i : Int) + t) = dg (dig n t)) (ho : out.length < 1000000)
    (h : Ev (fun k => asset_Decode64.l0 k x (out ++ (three n).take m) ((i : Int) + 4)) r) : Ev (fun k => asset_Decode64.l1 k x out (i : Int) 0 ((m : Int) + 1) 0) r := by
  have d0 : dig n 0 = n / 262144 % 64 := rfl
  have d1 : dig n 1 = n / 4096 % 64 := rfl
  have d2 : dig n 2 = n / 64 % 64 := rfl
  have d3 : dig n 3 = n / 1 % 64 := rfl
  have hk : ∀ t : Nat, t < 4 → ¬ ((t : Int) < (m : Int) + 1) → dig n t = 0 := by
    intro t ht hc
    have : t = 2 ∨ t = 3 := by omega
    rcases this with rfl | rfl
    · rw [d2]; have := hz2 (by omega); omega
    · rw [d3]; have := hz (by omega); omega
  have q0 := dig_range n 0
  have q1 := dig_range n 1
  have q2 := dig_range n 2
  have q3 := dig_range n 3
  have g : ∀ t : Nat, ((t : Int) < (m : Int) + 1) → bt x ((i : Int) + t) = dg (dig n t) := fun t ht => hv t (by omega)
  refine Ev.step (fun k => dec_round (v := dig n 0) (by omega) (by omega) hsz (by omega) (by omega) (by omega) (by omega) q0.1 q0.2 (g 0) (hk 0 (by omega)) k) ?_
  refine Ev.step (fun k => dec_round (v := dig n 1) (by omega) (by omega) hsz (by omega) (by omega) (by omega) (by omega) q1.1 q1.2 (g 1) (hk 1 (by omega)) k) ?_
  refine Ev.step (fun k => dec_round (v := dig n 2) (by omega) (by omega) hsz (by omega) (by omega) (by omega) (by omega) q2.1 q2.2 (g 2) (hk 2 (by omega)) k) ?_
  refine Ev.step (fun k => dec_round (v := dig n 3) (by omega) (by omega) hsz (by omega) (by omega) (by omega) (by omega) q3.1 q3.2 (g 3) (hk 3 (by omega)) k) ?_
  have he : (((0 * 64 + dig n 0) * 64 + dig n 1) * 64 + dig n 2) * 64 + dig n 3 = n := by rw [d0, d1, d2, d3]; omega
  rw [he]
  have hzero : ∀ z ∈ (three n).drop m, z = 0 := by
    intro z hz'
    have : m = 1 ∨ m = 2 ∨ m = 3 := by omega
    rcases this with rfl | rfl | rfl
    · have := hz2 (by omega)
      simp [three] at hz'
      rcases hz' with rfl | rfl <;> omega
    · have := hz (by omega)
      simp [three] at hz'
      omega
    · simp [three] at hz'
  have hlen : ((three n).drop m).length ≤ 3 := by simp [three]
  refine Ev.step (f := fun k => asset_Decode64.l2 k x out (i : Int) ((m : Int) + 1) (three n) ((three n).drop m) (((three n).drop m).length : Int) ((0 : Nat) : Int)) (fun k => ?_) (dec_zeros (m := (m : Int) + 1) hzero hlen (by omega) (by omega) rfl ho (by omega) (by omega) ?_ _ 0 (Nat.zero_add _))
  · simp only [asset_Decode64.l1]
    have hw : wrap64 ((m : Int) + 1 - 1) = (m : Int) := by rw [w64 (by omega) (by omega)]; omega
    rw [if_neg (by omega), hw]
    simp only [Option.bind_some]
    rw [if_pos (by omega), if_pos (by show (m : Int) ≤ ((3 : Nat) : Int); omega)]
    rfl
  · have e : ((m : Int) + 1 - 1).toNat = m := by omega
    rw [e]
    exact h

/-! both -/
theorem three_grp {x0 : ByteArray} {i m : Nat} (hm1 : 1 ≤ m) (hm3 : m ≤ 3) (him : i + m ≤ x0.size) : (three (grp x0 i m)).take m = ((bys x0).drop i).take m := by
  have p0 := pick_range x0 i m 0
  have p1 := pick_range x0 i m 1
  have p2 := pick_range x0 i m 2
  have hthree : three (grp x0 i m) = [pick x0 i m 0, pick x0 i m 1, pick x0 i m 2] := by
    unfold three grp
    rw [show (65536 * pick x0 i m 0 + 256 * pick x0 i m 1 + pick x0 i m 2) / 65536 % 256 = pick x0 i m 0 by omega,
      show (65536 * pick x0 i m 0 + 256 * pick x0 i m 1 + pick x0 i m 2) / 256 % 256 = pick x0 i m 1 by omega,
      show (65536 * pick x0 i m 0 + 256 * pick x0 i m 1 + pick x0 i m 2) % 256 = pick x0 i m 2 by omega]
  rw [hthree]
  have e : ∀ t : Nat, t < m → pick x0 i m (t : Int) = bt x0 ((i + t : Nat) : Int) := by
    intro t ht
    unfold pick
    rw [if_pos (by omega)]
    simp
  have : m = 1 ∨ m = 2 ∨ m = 3 := by omega
  have e0 := e 0 (by omega)
  rw [drop_bys x0 (by omega)]
  rcases this with rfl | rfl | rfl
  · simp only [List.take_succ_cons, List.take_zero]
    rw [show pick x0 i ((1 : Nat) : Int) 0 = _ from e0]; rfl
  · have e1 := e 1 (by omega)
    rw [drop_bys x0 (i := i + 1) (by omega)]
    simp only [List.take_succ_cons, List.take_zero]
    rw [show pick x0 i ((2 : Nat) : Int) 0 = _ from e0, show pick x0 i ((2 : Nat) : Int) 1 = _ from e1]; rfl
  · have e1 := e 1 (by omega)
    have e2 := e 2 (by omega)
    rw [drop_bys x0 (i := i + 1) (by omega), drop_bys x0 (i := i + 1 + 1) (by omega)]
    simp only [List.take_succ_cons, List.take_zero]
    rw [show pick x0 i ((3 : Nat) : Int) 0 = _ from e0, show pick x0 i ((3 : Nat) : Int) 1 = _ from e1, show pick x0 i ((3 : Nat) : Int) 2 = _ from e2]; rfl
theorem digs_range (n : Int) (m : Nat) : ∀ z ∈ digs n m, 0 ≤ z ∧ z ≤ 255 := by
  intro z hz
  simp only [digs, List.mem_map] at hz
  obtain ⟨t, _, rfl⟩ := hz
  exact dg_range _
theorem digs_len (n : Int) (m : Nat) : (digs n m).length = m + 1 := by simp [digs]

theorem both (x0 : ByteArray) (hsz : x0.size ≤ 20000) : ∀ (d i : Nat), i ≤ x0.size → x0.size - i ≤ d →
    ∃ T : List Int, (∀ z ∈ T, 0 ≤ z ∧ z ≤ 255) ∧ T.length = (4 * (x0.size - i) + 2) / 3 ∧
      (∀ out : List Int, out.length ≤ 2 * i + 10 → Ev (fun k => asset_Encode64.l0 k x0 out i) (strOfNums (out ++ T), 0)) ∧
      ∀ P out : List Int, (∀ z ∈ P, 0 ≤ z ∧ z ≤ 255) → P.length ≤ 2 * i + 10 → out.length ≤ i + 10 → Ev (fun k => asset_Decode64.l0 k (strOfNums (P ++ T)) out P.length) (strOfNums (out ++ (bys x0).drop i), 0) := by
  intro d
  induction d with
  | zero =>
    intro i hi hd
    obtain rfl : i = x0.size := by omega
    refine ⟨[], by simp, by simp, fun out _ => ?_, fun P out _ _ _ => ?_⟩
    · refine Ev.step (f := fun _ => some (strOfNums (out ++ []), 0)) (fun k => ?_) (Ev.now _)
      simp only [asset_Encode64.l0]
      rw [if_neg (by omega), List.append_nil]
    · refine Ev.step (f := fun _ => some (strOfNums (out ++ (bys x0).drop x0.size), 0)) (fun k => ?_) (Ev.now _)
      simp only [asset_Decode64.l0]
      rw [if_neg (by rw [size_str]; simp), List.drop_eq_nil_of_le (by rw [bys_len]; omega), List.append_nil]
  | succ d ih =>
    intro i hi hd
    by_cases hlt : i < x0.size
    case neg =>
      obtain rfl : i = x0.size := by omega
      exact ih _ (Nat.le_refl _) (by omega)
    -- the group
    obtain ⟨m, hm⟩ : ∃ m : Nat, m = min 3 (x0.size - i) := ⟨_, rfl⟩
    have hm1 : 1 ≤ m := by omega
    have hm3 : m ≤ 3 := by omega
    have him : i + m ≤ x0.size := by omega
    have p0 := pick_range x0 i m 0
    have p1 := pick_range x0 i m 1
    have p2 := pick_range x0 i m 2
    have hg0 : 0 ≤ grp x0 i m := by unfold grp; omega
    have hg1 : grp x0 i m < 16777216 := by unfold grp; omega
    have hz : m < 3 → grp x0 i m % 256 = 0 := by
      intro h
      have : pick x0 i m 2 = 0 := by unfold pick; rw [if_neg (by omega)]
      unfold grp; omega
    have hz2 : m < 2 → grp x0 i m % 65536 = 0 := by
      intro h
      have a : pick x0 i m 2 = 0 := by unfold pick; rw [if_neg (by omega)]
      have b : pick x0 i m 1 = 0 := by unfold pick; rw [if_neg (by omega)]
      unfold grp; omega
    have hmn : mn 3 (wrap64 ((x0.size : Int) - i)) = m := by
      rw [w64 (by omega) (by omega)]; unfold mn; split <;> omega
    -- what comes behind it
    obtain ⟨T, hT, hTl, hTe, hTd⟩ : ∃ T : List Int, (∀ z ∈ T, 0 ≤ z ∧ z ≤ 255) ∧ T.length = (4 * (x0.size - (i + 3)) + 2) / 3 ∧
        (∀ out : List Int, out.length ≤ 2 * i + 16 → Ev (fun k => asset_Encode64.l0 k x0 out ((i : Int) + 3)) (strOfNums (out ++ T), 0)) ∧
        ∀ P out : List Int, (∀ z ∈ P, 0 ≤ z ∧ z ≤ 255) → P.length ≤ 2 * i + 10 → out.length ≤ i + 13 → Ev (fun k => asset_Decode64.l0 k (strOfNums (P ++ digs (grp x0 i m) m ++ T)) out (P.length + 4)) (strOfNums (out ++ (bys x0).drop (i + 3)), 0) := by
      by_cases h3 : i + 3 ≤ x0.size
      · obtain ⟨T, a, b, c, e⟩ := ih (i + 3) h3 (by omega)
        refine ⟨T, a, b, fun out ho => ?_, fun P out hP hl ho => ?_⟩
        · have := c out (by omega)
          simpa using this
        · have hm' : m = 3 := by omega
          have hr : ∀ z ∈ P ++ digs (grp x0 i m) m, 0 ≤ z ∧ z ≤ 255 := by
            intro z hz
            rcases List.mem_append.1 hz with hz | hz
            · exact hP z hz
            · exact digs_range _ _ z hz
          have hl2 : (P ++ digs (grp x0 i m) m).length = P.length + 4 := by rw [List.length_append, digs_len]; omega
          have := e (P ++ digs (grp x0 i m) m) out hr (by rw [hl2]; omega) (by omega)
          rw [hl2] at this
          simpa using this
      · refine ⟨[], by simp, by simp; omega, fun out _ => ?_, fun P out _ _ _ => ?_⟩
        · refine Ev.step (f := fun _ => some (strOfNums (out ++ []), 0)) (fun k => ?_) (Ev.now _)
          simp only [asset_Encode64.l0]
          rw [if_neg (by omega), List.append_nil]
        · refine Ev.step (f := fun _ => some (strOfNums (out ++ (bys x0).drop (i + 3)), 0)) (fun k => ?_) (Ev.now _)
          simp only [asset_Decode64.l0]
          rw [if_neg (by rw [size_str, List.append_nil, List.length_append, digs_len]; omega), List.drop_eq_nil_of_le (by rw [bys_len]; omega), List.append_nil]
    refine ⟨digs (grp x0 i m) m ++ T, ?_, ?_, fun out ho => ?_, fun P out hP hl ho => ?_⟩
    · intro z hz
      rcases List.mem_append.1 hz with hz | hz
      · exact digs_range _ _ z hz
      · exact hT z hz
    · rw [List.length_append, digs_len, hTl]; omega
    · refine Ev.step (f := fun k => asset_Encode64.l1 k x0 out i 0 m 0) (fun k => ?_) ?_
      · simp only [asset_Encode64.l0]
        rw [if_pos (by omega), hmn]
      · refine enc_group (by omega) (by omega) (by omega) (by omega) hsz ?_
        refine enc_digs hm3 hg0 hg1 (by omega) (by omega) (m + 1) 0 out (by omega) (by omega) ?_
        have := hTe (out ++ digs (grp x0 i m) m) (by rw [List.length_append, digs_len]; omega)
        rw [← List.range_eq_range']
        rw [List.append_assoc] at this
        exact this
    · have hx : ∀ t : Nat, t < m + 1 → bt (strOfNums (P ++ (digs (grp x0 i m) m ++ T))) ((P.length : Int) + t) = dg (dig (grp x0 i m) t) := by
        intro t ht
        have hall : ∀ z ∈ P ++ (digs (grp x0 i m) m ++ T), 0 ≤ z ∧ z ≤ 255 := by
          intro z hz
          rcases List.mem_append.1 hz with hz | hz
          · exact hP z hz
          · rcases List.mem_append.1 hz with hz | hz
            · exact digs_range _ _ z hz
            · exact hT z hz
        have := bt_str hall (i := P.length + t) (by simp [digs_len]; omega)
        rw [show ((P.length : Int) + t) = ((P.length + t : Nat) : Int) by omega, this]
        rw [List.getElem_append_right (by omega)]
        simp only [Nat.add_sub_cancel_left]
        rw [List.getElem_append_left (by rw [digs_len]; omega)]
        simp [digs]
      have hsz2 : (strOfNums (P ++ (digs (grp x0 i m) m ++ T))).size = P.length + (m + 1 + T.length) := by rw [size_str]; simp [digs_len]
      have hmn2 : mn 4 (wrap64 (((strOfNums (P ++ (digs (grp x0 i m) m ++ T))).size : Int) - P.length)) = (m : Int) + 1 := by
        rw [hsz2, w64 (by omega) (by omega)]; unfold mn; split <;> omega
      refine Ev.step (f := fun k => asset_Decode64.l1 k (strOfNums (P ++ (digs (grp x0 i m) m ++ T))) out P.length 0 ((m : Int) + 1) 0) (fun k => ?_) ?_
      · simp only [asset_Decode64.l0]
        rw [if_pos (by rw [hsz2]; omega), hmn2]
      · refine dec_group hm1 hm3 (by rw [hsz2]; omega) (by rw [hsz2]; omega) hg0 hg1 hz hz2 hx (by omega) ?_
        have hl3 : ((three (grp x0 i m)).take m).length ≤ 3 := by rw [List.length_take]; simp [three]; omega
        have := hTd P (out ++ (three (grp x0 i m)).take m) hP (by omega) (by rw [List.length_append]; omega)
        rw [three_grp hm1 hm3 him] at this ⊢
        rw [List.append_assoc P] at this
        rw [List.append_assoc out] at this
        have e : ((bys x0).drop i).take m ++ (bys x0).drop (i + 3) = (bys x0).drop i := by
          by_cases h3 : i + 3 ≤ x0.size
          · have : m = 3 := by omega
            subst this
            rw [← List.drop_drop]
            exact List.take_append_drop 3 _
          · have e0 : (bys x0).drop (i + 3) = [] := List.drop_eq_nil_of_le (by rw [bys_len]; omega)
            rw [e0, List.append_nil]
            exact List.take_of_length_le (by rw [List.length_drop, bys_len]; omega)
        rw [e] at this
        exact this

theorem AssetCoded : mastkeep2_AssetCoded.Pure := by
  intro a0 _
  have haw : mastkeep2_awakeAsset.f = some true := rfl
  by_cases hbig : a0.size > 20000
  · refine ⟨0, ?_⟩
    unfold mastkeep2_AssetCoded.f
    rw [haw]
    simp only [Option.bind_some, if_true]
    unfold asset_Encode64.f
    rw [if_pos (by omega)]
    simp only [Option.bind_some]
    rw [if_neg (by decide), if_pos (by rw [ByteArray.toList_eq]), decide_eq_true (by omega)]
  · obtain ⟨T, hT, hTl, he, hd⟩ := both a0 (by omega) a0.size 0 (by omega) (by omega)
    have h1 : Ev (fun k => asset_Encode64.f k a0) (strOfNums T, 0) := by
      refine Ev.congr (f := fun k => asset_Encode64.l0 k a0 [] ((0 : Nat) : Int)) (fun k => ?_) (he [] (by simp))
      unfold asset_Encode64.f
      rw [if_neg (by omega)]
      rfl
    have hs : (strOfNums T).size = (4 * a0.size + 2) / 3 := by rw [size_str, hTl]; simp
    have h2 : Ev (fun k => asset_Decode64.f k (strOfNums T)) (a0, 0) := by
      have := hd [] [] (by simp) (by simp) (by simp)
      rw [List.nil_append, List.nil_append, List.drop_zero, str_bys] at this
      refine Ev.congr (f := fun k => asset_Decode64.l0 k (strOfNums T) [] ((0 : Nat) : Int)) (fun k => ?_) this
      unfold asset_Decode64.f
      rw [if_neg (by omega), if_neg (by omega)]
      rfl
    refine Ev.rounds (r := true) ?_
    refine Ev.congr (fun k => ?_) (Ev.bind h1 (f := fun k bt122 => if bt122.2 = 0 then (asset_Decode64.f k bt122.1).bind fun bt124 => if bt124.2 = 0 then if bt124.1.toList = a0.toList then some ((bt122.1.size : Int) == wrap64 (Int.tdiv (wrap64 (wrap64 (4 * (a0.size : Int)) + 2)) 3)) else some false else some false else if bt122.1.toList = ([] : List UInt8) then some (decide ((a0.size : Int) > 20000)) else some false) ?_)
    · unfold mastkeep2_AssetCoded.f
      rw [haw]
      rfl
    · refine Ev.congr (f := fun k => (asset_Decode64.f k (strOfNums T)).bind fun bt124 => if bt124.2 = 0 then if bt124.1.toList = a0.toList then some (((strOfNums T).size : Int) == wrap64 (Int.tdiv (wrap64 (wrap64 (4 * (a0.size : Int)) + 2)) 3)) else some false else some false) (fun k => by rw [if_pos rfl]) ?_
      refine Ev.bind h2 ?_
      refine Ev.congr (f := fun _ => some true) (fun k => ?_) (Ev.now _)
      rw [if_pos rfl, if_pos rfl, w64 (n := 4 * (a0.size : Int)) (by omega) (by omega), w64 (n := 4 * (a0.size : Int) + 2) (by omega) (by omega), hs]
      have : wrap64 (Int.tdiv (4 * (a0.size : Int) + 2) 3) = (((4 * a0.size + 2) / 3 : Nat) : Int) := by
        rw [Int.tdiv_eq_ediv_of_nonneg (by omega), w64 (by omega) (by omega)]; omega
      rw [this, beq_self_eq_true]
end Go.Proofs.Ythagabjcoknogaa.Pure
