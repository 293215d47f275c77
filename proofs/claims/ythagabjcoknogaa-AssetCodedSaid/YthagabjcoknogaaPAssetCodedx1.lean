-- Made for this claim by a program of this session (xprint.py over the kit's printing program); Lean checks it.
import Derived.Test.YthagabjcoknogaaPAssetCodedx0
namespace Go.Proofs.Ythagabjcoknogaa.PAssetCoded
open Go.RowKit Go.Proofs.YthagabjcoknogaaW.PrintWords Go.Proofs.YthagabjcoknogaaW.PrintLast Go.Proofs.YthagabjcoknogaaW.PrintMore
attribute [local go_sem] max2_int min2_int max_two min_two max_three min_three max_four min_four   -- for this text's walks alone
set_option linter.unusedVariables false
set_option linter.unusedSimpArgs false

/-! ### asset_Digest: function 20 -/
theorem gate_store {P : Program} {ops : Array Oper} {rest : List Oper} {o : Oper} {a : Act} {Q : Exit → Act → World → Prop} {W : World} {ty : TypeId} {x y : Operand} (_ho : o.op = .store ty x y) (h : wpList P ops Q (o :: rest) a W) : wpList P ops Q (o :: rest) a W := h
theorem four_size (a b c d : Int) : (#[Value.int .u32 a, .int .u32 b, .int .u32 c, .int .u32 d] : Array Value).size = 4 := rfl
theorem four_all (a b c d : Int) : (#[Value.int .u32 a, .int .u32 b, .int .u32 c, .int .u32 d] : Array Value).all (·.oneCell') = true := by simp [Value.oneCell']
theorem four_info0 : (Try.prog.info? 69).map (·.size) = some 4 := by kernel_rfl
theorem four_info (a b c d : Int) : (Try.prog.info? 69).map (·.size) = some (#[Value.int .u32 a, .int .u32 b, .int .u32 c, .int .u32 d] : Array Value).size := four_info0
def cells4 (p q r s : Int) : List Value := [.int .u32 p, .int .u32 q, .int .u32 r, .int .u32 s]
/-- a block of four numbers -/
def Four (w : World) (g : Nat) (p q r s : Int) : Prop := w.heap[g]? = some (.cells #[.int .u32 p, .int .u32 q, .int .u32 r, .int .u32 s] 69 (0, 0))
def dP (p b : Int) : Int := (p + b) % 4294967296 * 16777619 % 4294967296
def dQ (p q b : Int) : Int := (q + (p + b) % 4294967296 * 16777619) % 4294967296 * 2654435761 % 4294967296
def dR (p q r b : Int) : Int := (Go.bits .xor .u32 r (dQ p q b) + 374761393) % 4294967296
def dS (p q r s b : Int) : Int := (s + 9 * dR p q r b + b) % 4294967296
theorem dS_eq (p q r s b : Int) : (s + 9 * dR p q r b + b) % 4294967296 = dS p q r s b := rfl
theorem cells4_src {w : World} {g : Nat} {p q r s : Int} (h : w.heap[g]? = some (.cells (cells4 p q r s).toArray 69 (0, 0))) (j : Nat) (v : Value) (hv : (cells4 p q r s)[j]? = some v) : w.cell? ((⟨g, 0, none⟩ : Addr).add j) = some v := by
  rw [add_plain, cell_of_row w g j _ _ _ h]
  simpa using hv
theorem cells4_one {p q r s : Int} : ∀ v ∈ cells4 p q r s, v.oneCell' = true := by simp [cells4, Value.oneCell']
set_option maxHeartbeats 400000 in
set_option maxRecDepth 100000 in
theorem take_any (g B : Nat) (p q r s b : Int) (w0 w : World) (hg : Four w g p q r s) (hB : Below B w0 w) (hBg : B ≤ g) :
    Calls Try.prog 32 #[.int .u32 b, .pointer (some ⟨g, 0, none⟩)] w fun e w' => e = .returned (.tuple #[]) ∧ Four w' g (dQ p q b) (dR p q r b) (dS p q r s b) (dP p b) ∧ Below B w0 w' := by
  have c0 : w.cell? ⟨g, 0, none⟩ = some (.int .u32 p) := by have : _ = _ := hg; simp [World.cell?, this]
  have c1 : w.cell? ⟨g, 1, none⟩ = some (.int .u32 q) := by have : _ = _ := hg; simp [World.cell?, this]
  have c2 : w.cell? ⟨g, 2, none⟩ = some (.int .u32 r) := by have : _ = _ := hg; simp [World.cell?, this]
  have c3 : w.cell? ⟨g, 3, none⟩ = some (.int .u32 s) := by have : _ = _ := hg; simp [World.cell?, this]
  have hlt : g < w.heap.size := lt_of_block hg
  go_enter Try.func32, Try.ntmps32
  go_wp2
  go_quiet (fail)
  go_wp2_with (first | ((with_reducible refine gate_store (ty := 69) (x := .tmp 7) (y := .tmp 38) rfl ?_); refine wpList_store_row rfl 69 (.tmp 7) (.tmp 38) rfl w.heap.size _ rfl rfl 69 #[.int .u32 0, .int .u32 0, .int .u32 0, .int .u32 0] ?hg ?hi ?ho ?h1 ?_))
  case hg => exact heap_alloc_new _ _
  case hi => exact four_info _ _ _ _
  case ho => exact (four_size _ _ _ _).symm
  case h1 => exact four_all _ _ _ _
  generalize hW : World.setRow _ _ _ = w5
  have f1 : w5.heap[g]? = some (.cells (cells4 p q r s).toArray 69 (0, 0)) := by
    rw [← hW, setRow_other _ _ _ _ (by omega)]
    exact (Below.heap_alloc _ _ _ hlt).trans hg
  have f2 : w5.heap[w.heap.size]? = some (.cells (cells4 (dQ p q b) (dR p q r b) (dS p q r s b) (dP p b)).toArray 69 (0, 0)) := by
    rw [← hW]
    exact setRow_heap _ _ _ _ _ _ (heap_alloc_new (w.drewN nq) _)
  have f3 : Below B w0 w5 := by
    rw [← hW]
    exact below_setRow ((pw_below_drewN hB _).alloc (by show B ≤ w.heap.size; omega) _) (by omega) _
  clear hW c0 c1 c2 c3
  have hsrc := Lib.hid (cells4_src f2)
  have f1' := Lib.hid f1
  clear f1 f2
  go_region_law (refine step_copy_splice rfl (.tmp 39) (.tmp 40) 70 70 rfl 68 Try.underlying70 (by kernel_rfl) _ _ 4 4 4 4 rfl rfl g 0 (cells4 p q r s) 69 f1'.out (cells4 (dQ p q b) (dR p q r b) (dS p q r s b) (dP p b)) rfl (fun _ => ⟨rfl, _, rfl, hsrc.out⟩) (by simp [cells4]) cells4_one B w0 f3.drew hBg ?_; intro w6 hg6 hb6)
  go_end0
  exact ⟨rfl, hg6.out, hb6⟩

def dStep (n : Int × Int × Int × Int) (b : Int) : Int × Int × Int × Int := (dQ n.1 n.2.1 b, dR n.1 n.2.1 n.2.2.1 b, dS n.1 n.2.1 n.2.2.1 n.2.2.2 b, dP n.1 b)
def FourT (w : World) (g : Nat) (n : Int × Int × Int × Int) : Prop := Four w g n.1 n.2.1 n.2.2.1 n.2.2.2
theorem take_step (g B : Nat) (n : Int × Int × Int × Int) (b : Int) (w0 w : World) (hg : FourT w g n) (hB : Below B w0 w) (hBg : B ≤ g) :
    Calls Try.prog 32 #[.int .u32 b, .pointer (some ⟨g, 0, none⟩)] w fun e w' => e = .returned (.tuple #[]) ∧ FourT w' g (dStep n b) ∧ Below B w0 w' := take_any g B _ _ _ _ b w0 w hg hB hBg
theorem take_step' (g B : Nat) (n : Int × Int × Int × Int) (b b' : Int) (e : b' = b) (w0 w : World) (hg : FourT w g n) (hB : Below B w0 w) (hBg : B ≤ g) :
    Calls Try.prog 32 #[.int .u32 b', .pointer (some ⟨g, 0, none⟩)] w fun e w' => e = .returned (.tuple #[]) ∧ FourT w' g (dStep n b) ∧ Below B w0 w' := by subst e; exact take_step g B n b' w0 w hg hB hBg
theorem and255 {x : Int} (h0 : 0 ≤ x) (h1 : x < 4294967296) : Go.bits .and .u32 x 255 = x % 256 := by
  refine bits_mask .u32 32 (by decide) (fun n a b => ?_) 8 (by decide) x h0 (by omega)
  rw [IntKind.wrap_u32]; omega
def run0 : Int × Int × Int × Int := (1732584193, 4023233417, 2562383102, 271733878)
def run1 (s : ByteArray) : Nat → Int × Int × Int × Int
  | 0 => run0
  | k + 1 => dStep (run1 s k) (bt s k)
def run2 (n : Int × Int × Int × Int) (z : Int) : Nat → Int × Int × Int × Int
  | 0 => n
  | k + 1 => dStep (run2 n z k) (z / (256 : Int) ^ k % 256)
def run3 (n : Int × Int × Int × Int) : Nat → Int × Int × Int × Int
  | 0 => n
  | k + 1 => dStep (run3 n k) 0
def hexd (x : Int) (m : Nat) : Int := bt (⟨#[48, 49, 50, 51, 52, 53, 54, 55, 56, 57, 97, 98, 99, 100, 101, 102]⟩ : ByteArray) (Go.bits .and .u32 (x / 2 ^ (28 - 4 * m)) 15)
theorem and15 {x : Int} (h0 : 0 ≤ x) (h1 : x < 4294967296) : Go.bits .and .u32 x 15 = x % 16 := by
  refine bits_mask .u32 32 (by decide) (fun n a b => ?_) 4 (by decide) x h0 (by omega)
  rw [IntKind.wrap_u32]; omega
theorem hexd_at {x : Int} (h0 : 0 ≤ x) (h1 : x < 4294967296) (m : Nat) : 0 ≤ Go.bits .and .u32 (x / 2 ^ (28 - 4 * m)) 15 ∧ Go.bits .and .u32 (x / 2 ^ (28 - 4 * m)) 15 < 16 := by
  have hp : 0 < (2 : Int) ^ (28 - 4 * m) := Int.pow_pos (by omega)
  have hq0 : 0 ≤ x / ((2 : Int) ^ (28 - 4 * m)) := Int.ediv_nonneg h0 (by omega)
  have hq1 : x / ((2 : Int) ^ (28 - 4 * m)) ≤ x := Int.ediv_le_self _ h0
  rw [and15 hq0 (by omega)]
  omega
def hex8 (x : Int) : Nat → List Int
  | 0 => []
  | m + 1 => hex8 x m ++ [hexd x m]
def comp (n : Int × Int × Int × Int) : Nat → Int
  | 0 => n.1
  | 1 => n.2.1
  | 2 => n.2.2.1
  | _ => n.2.2.2
def outL (n : Int × Int × Int × Int) : Nat → List Int
  | 0 => []
  | j + 1 => outL n j ++ hex8 (comp n j) 8
theorem hex8_len (x : Int) : ∀ m, (hex8 x m).length = m := by
  intro m
  induction m with
  | zero => rfl
  | succ m ih => rw [hex8, List.length_append, ih]; rfl
theorem outL_len (n : Int × Int × Int × Int) : ∀ j, (outL n j).length = 8 * j := by
  intro j
  induction j with
  | zero => rfl
  | succ j ih => rw [outL, List.length_append, ih, hex8_len]; omega
theorem len_at (n : Int × Int × Int × Int) (x : Int) (j m : Nat) (hj : j ≤ 4) (hm : m ≤ 8) : (outL n j ++ hex8 x m).length ≤ 40 := by
  rw [List.length_append, outL_len, hex8_len]; omega
def InR (n : Int × Int × Int × Int) : Prop := ∀ i, 0 ≤ comp n i ∧ comp n i < 4294967296
theorem step_InR (n : Int × Int × Int × Int) (b : Int) : InR (dStep n b) := by
  intro i
  match i with
  | 0 => show 0 ≤ dQ _ _ _ ∧ dQ _ _ _ < _; unfold dQ; omega
  | 1 => show 0 ≤ dR _ _ _ _ ∧ dR _ _ _ _ < _; unfold dR; omega
  | 2 => show 0 ≤ dS _ _ _ _ _ ∧ dS _ _ _ _ _ < _; unfold dS; omega
  | n + 3 => show 0 ≤ dP _ _ ∧ dP _ _ < _; unfold dP; omega
def digestS (s : ByteArray) : ByteArray := strOfNums (outL (run3 (run2 (run1 s s.size) s.size 4) 16) 4)
theorem gate_load {P : Program} {ops : Array Oper} {rest : List Oper} {o : Oper} {a : Act} {Q : Exit → Act → World → Prop} {W : World} {ty : TypeId} {x : Operand} (_ho : o.op = .load ty x) (h : wpList P ops Q (o :: rest) a W) : wpList P ops Q (o :: rest) a W := h
set_option maxHeartbeats 4000000 in
set_option maxRecDepth 100000 in
theorem digest_any (s : ByteArray) (w : World) (hs : s.size ≤ maxLen) :
    Calls Try.prog 20 #[.string s] w fun e w' => e = .returned (.string (digestS s)) ∧ Below w.heap.size w w' := by
  unfold maxLen at hs
  have hmf : ∀ (fn : Fn) (first cap : Array Value) (w : World), (Instr.makeFunc fn first cap).run Try.prog w = .ok (.func fn first cap) w := fun _ _ _ _ => rfl
  go_enter Try.func20, Try.ntmps20
  go_wp2_with (first | ((with_reducible refine gate_store (ty := 69) (x := .tmp 3) (y := .tmp 11) rfl ?_); refine wpList_store_row rfl 69 (.tmp 3) (.tmp 11) rfl w.heap.size _ rfl rfl 69 #[.int .u32 0, .int .u32 0, .int .u32 0, .int .u32 0] (heap_alloc_new w _) four_info0 rfl (four_all _ _ _ _) ?_))
  generalize hW : World.setRow _ _ _ = w1
  have f1 : FourT w1 w.heap.size run0 := by
    rw [← hW]
    exact setRow_heap _ _ _ _ _ _ (heap_alloc_new w _)
  have f3 : Below w.heap.size w w1 := by
    rw [← hW]
    exact below_setRow ((Below.refl _ _).alloc (Nat.le_refl _) _) (Nat.le_refl _) _
  clear hW
  have f1' := Lib.hid f1
  clear f1
  go_loopw [5] (fun i wr => ∃ k : Nat, k ≤ s.size ∧ i = .int .i64 k ∧ Hid (FourT wr w.heap.size (run1 s k)) ∧ Hid (Below w.heap.size w wr)) (fun i _ => s.size - (intOf i).toNat)
  case atStart => exact ⟨0, Nat.zero_le _, rfl, f1', f3⟩
  case round =>
    clear f1' f3
    obtain ⟨k, hk, rfl, hf, hb⟩ := hrel
    by_cases hlt : k < s.size
    · have hx := bt_at s k
      go_wp2_with fail
      refine (take_step' _ _ (run1 s k) (bt s k) _ ?e w wr hf hb.out (Nat.le_refl _)).mono ?_
      case e =>
        have hx1 := hx (by simpa using hlt)
        have hx2 := bt_range s k
        rw [← hx1] at hx2 ⊢
        simp only [Int.toNat_natCast] at hx2 ⊢
        omega
      rintro e w2 ⟨rfl, hf2, hb2⟩
      have hf2' := Lib.hid hf2
      have hb2' := Lib.hid hb2
      clear hf2 hb2 hx
      go_wp2_with fail
      go_roundw
      case rel => exact ⟨k + 1, by omega, by go_num, hf2', hb2'⟩
      case measure => simp [intOf]; omega
    · obtain rfl : k = s.size := by omega
      have hf' := Lib.hid hf
      have hb' := Lib.hid hb
      clear hf hb
      go_wp2_with fail
      go_loopw [25] (fun i wr => ∃ k : Nat, k ≤ 4 ∧ i = .int .i64 k ∧ Hid (FourT wr w.heap.size (run2 (run1 s s.size) s.size k)) ∧ Hid (Below w.heap.size w wr)) (fun i _ => 4 - (intOf i).toNat)
      case atStart => exact ⟨0, Nat.zero_le _, rfl, hf'.out, hb'.out⟩
      case round =>
        clear hf' hb'
        obtain ⟨k, hk, rfl, hf, hb⟩ := hrel
        have h4 : k = 0 ∨ k = 1 ∨ k = 2 ∨ k = 3 ∨ k = 4 := by omega
        rcases h4 with rfl | rfl | rfl | rfl | rfl
        case inr.inr.inr.inr =>
          rw [show ((4 : Nat) : Int) = 4 from rfl]
          have hf' := Lib.hid hf
          have hb' := Lib.hid hb
          clear hf hb
          go_wp2_with fail
          go_loopw [38] (fun i wr => ∃ k : Nat, k ≤ 16 ∧ i = .int .i64 k ∧ Hid (FourT wr w.heap.size (run3 (run2 (run1 s s.size) s.size 4) k)) ∧ Hid (Below w.heap.size w wr)) (fun i _ => 16 - (intOf i).toNat)
          case atStart => exact ⟨0, Nat.zero_le _, rfl, hf'.out, hb'.out⟩
          case round =>
            clear hf' hb'
            obtain ⟨k, hk, rfl, hf, hb⟩ := hrel
            by_cases h16 : k < 16
            · go_wp2_with fail
              refine (take_step' _ _ (run3 (run2 (run1 s s.size) s.size 4) k) 0 _ ?e w wr hf hb.out (Nat.le_refl _)).mono ?_
              case e => rfl
              rintro e w2 ⟨rfl, hf2, hb2⟩
              have hf2' := Lib.hid hf2
              have hb2' := Lib.hid hb2
              clear hf2 hb2
              go_wp2_with fail
              go_roundw
              case rel => exact ⟨k + 1, by omega, by go_num, hf2', hb2'⟩
              case measure => simp [intOf]; omega
            · obtain rfl : k = 16 := by omega
              obtain ⟨n, hn⟩ : ∃ n, n = run3 (run2 (run1 s s.size) s.size 4) 16 := ⟨_, rfl⟩
              rw [← hn] at hf
              have hrange : InR n := by rw [hn]; exact step_InR _ _
              have hn' := Lib.hid hn
              clear hn
              have hf' := Lib.hid hf
              have HB := Aside0.mk hb.out
              clear hf hb
              rw [show ((16 : Nat) : Int) = 16 from rfl]
              have HO := Aside0.mk (show Kd.R (Kd.int .u8) 5 wr w.heap.size (fun _ => True) (.slice none 0 0) [] from Kd.R_nil _ _ _ _ _)
              go_wp2_with (first | ((with_reducible refine gate_load (ty := 69) (x := .tmp 3) rfl ?_); refine wpList_load_row rfl 69 (.tmp 3) rfl w.heap.size rfl 69 _ (0, 0) _ hf'.out Try.underlying69 rfl four_info0 ?_))
              go_loopw [7, 44] (fun v i wr => ∃ j : Nat, j ≤ 4 ∧ i = .int .i64 j ∧ Aside0 (Kd.R (Kd.int .u8) 5 wr w.heap.size (fun _ => True) v (outL n j)) ∧ Aside0 (Below w.heap.size w wr)) (fun _ i _ => 4 - (intOf i).toNat)
              case atStart => exact ⟨0, Nat.zero_le _, rfl, HO, HB⟩
              case round =>
                clear HO HB hf'
                obtain ⟨j, hj, rfl, HO, HB⟩ := hrel
                have h4 : j = 0 ∨ j = 1 ∨ j = 2 ∨ j = 3 ∨ j = 4 := by omega
                rcases h4 with rfl | rfl | rfl | rfl | rfl
                case inr.inr.inr.inr =>
                  rw [show ((4 : Nat) : Int) = 4 from rfl]
                  have hcv := own_string (P := Try.prog) Try.underlying54 Try.underlying5 Try.underlying9 (Kd.own_of_R HO.out)
                  have hn2 := Lib.hid (show strOfNums (outL n 4) = digestS s by unfold digestS; rw [← hn'.out])
                  clear hrange
                  go_wp2_with fail
                  go_ret
                  exact ⟨congrArg (fun z => Ending.returned (Value.string z)) hn2.out, HB.out⟩
                case inl =>
                  have i0 : ∀ w, (Instr.index 69 (.agg #[.int .u32 n.1, .int .u32 n.2.1, .int .u32 n.2.2.1, .int .u32 n.2.2.2]) (.int .i64 0)).run Try.prog w = .ok (.int .u32 n.1) w := fun _ => by kernel_rfl
                  obtain ⟨x, hx⟩ : ∃ x, x = n.1 := ⟨_, rfl⟩
                  rw [show ((0 : Nat) : Int) = 0 from rfl]
                  go_wp2_with fail
                  rw [← hx]
                  have hx0 : 0 ≤ x := by rw [hx]; exact (hrange 0).1
                  have hx1 : x < 4294967296 := by rw [hx]; exact (hrange 0).2
                  have hx' := Lib.hid hx
                  have hlen := Lib.hid (fun (m : Nat) (hm : m ≤ 8) => len_at n x 0 m (by omega) hm)
                  clear hx i0
                  go_loopw [7, 10] (fun v i wr => ∃ m : Nat, m ≤ 8 ∧ i = .int .i64 (28 - 4 * m) ∧ Aside0 (Kd.R (Kd.int .u8) 5 wr w.heap.size (fun _ => True) v (outL n 0 ++ hex8 x m)) ∧ Aside0 (Below w.heap.size w wr)) (fun _ i _ => (intOf i + 4).toNat)
                  case atStart => exact ⟨0, Nat.zero_le _, rfl, ⟨by simpa [hex8] using HO.out⟩, HB⟩
                  case round =>
                    clear HO HB
                    obtain ⟨m, hm, rfl, HO, HB⟩ := hrel
                    by_cases hm8 : m < 8
                    · have hxd := bt_at (⟨#[48, 49, 50, 51, 52, 53, 54, 55, 56, 57, 97, 98, 99, 100, 101, 102]⟩ : ByteArray) (Go.bits .and .u32 (x / 2 ^ (28 - 4 * m)) 15)
                      have px := hexd_at hx0 hx1 m
                      obtain ⟨p17, q17⟩ := px
                      replace p17 := eq_true p17
                      replace q17 := eq_true q17
                      go_wp2_with (first | ((with_reducible refine gate_builtin (b := .append) (xs := #[.tmp 51, .tmp 57]) rfl ?_); at_builtin; (refine Kd.R_append (Kd.int .u8) (w0 := w) w.heap.size rfl (.tmp 51) (.tmp 57) 54 5 (.int .u8 0) 1 rfl Try.underlying54 info5 rfl (by decide) (by omega) u7 (outL n 0 ++ hex8 x m) (hexd x m) [.int .u8 (hexd x m)] (fun _ => True) (fun _ => False) rfl rfl ?aP (fun _ hk => hk.elim) ?aF ?aO ?aB ?aS ?aL ?_; (case aP => exact rfl); (case aB => exact (by repeat (first | (with_reducible first | exact HB.out | apply below_alloc | apply pw_below_drewN | apply below_drew1) | exact HB.out))); (case aF => exact (fun _ _ => trivial)); (case aO => exact (by (with_reducible repeat (first | apply Kd.R_alloc | apply Kd.R_drewN | apply Kd.R_drew)); exact HO.out)); (case aS => exact (below_size (by repeat (first | (with_reducible first | exact HB.out | apply below_alloc | apply pw_below_drewN | apply below_drew1) | exact HB.out)))); (case aL => have := hlen.out m hm; omega); intro v103 w19 ho hb hg hat; have n0_ := Aside0.mk (hb); have n1_ := Aside0.mk (ho); clear HB; clear HO; have HB := n0_; have HO := n1_; clear n0_ n1_; clear ho hb hg hat)))
                      go_roundw
                      case rel => exact ⟨m + 1, by omega, by go_num, ⟨by rw [List.append_assoc] at *; exact HO.out⟩, HB⟩
                      case measure => simp [intOf]; omega
                    · obtain rfl : m = 8 := by omega
                      have hx3 := hx'.out
                      clear hx' hlen hx0 hx1
                      subst hx3
                      go_wp2_with fail
                      go_roundw
                      case rel => exact ⟨1, by omega, rfl, HO, HB⟩
                      case measure => simp [intOf]
                case inr.inl =>
                  have i0 : ∀ w, (Instr.index 69 (.agg #[.int .u32 n.1, .int .u32 n.2.1, .int .u32 n.2.2.1, .int .u32 n.2.2.2]) (.int .i64 1)).run Try.prog w = .ok (.int .u32 n.2.1) w := fun _ => by kernel_rfl
                  obtain ⟨x, hx⟩ : ∃ x, x = n.2.1 := ⟨_, rfl⟩
                  rw [show ((1 : Nat) : Int) = 1 from rfl]
                  go_wp2_with fail
                  rw [← hx]
                  have hx0 : 0 ≤ x := by rw [hx]; exact (hrange 1).1
                  have hx1 : x < 4294967296 := by rw [hx]; exact (hrange 1).2
                  have hx' := Lib.hid hx
                  have hlen := Lib.hid (fun (m : Nat) (hm : m ≤ 8) => len_at n x 1 m (by omega) hm)
                  clear hx i0
                  go_loopw [7, 10] (fun v i wr => ∃ m : Nat, m ≤ 8 ∧ i = .int .i64 (28 - 4 * m) ∧ Aside0 (Kd.R (Kd.int .u8) 5 wr w.heap.size (fun _ => True) v (outL n 1 ++ hex8 x m)) ∧ Aside0 (Below w.heap.size w wr)) (fun _ i _ => (intOf i + 4).toNat)
                  case atStart => exact ⟨0, Nat.zero_le _, rfl, ⟨by simpa [hex8] using HO.out⟩, HB⟩
                  case round =>
                    clear HO HB
                    obtain ⟨m, hm, rfl, HO, HB⟩ := hrel
                    by_cases hm8 : m < 8
                    · have hxd := bt_at (⟨#[48, 49, 50, 51, 52, 53, 54, 55, 56, 57, 97, 98, 99, 100, 101, 102]⟩ : ByteArray) (Go.bits .and .u32 (x / 2 ^ (28 - 4 * m)) 15)
                      have px := hexd_at hx0 hx1 m
                      obtain ⟨p17, q17⟩ := px
                      replace p17 := eq_true p17
                      replace q17 := eq_true q17
                      go_wp2_with (first | ((with_reducible refine gate_builtin (b := .append) (xs := #[.tmp 51, .tmp 57]) rfl ?_); at_builtin; (refine Kd.R_append (Kd.int .u8) (w0 := w) w.heap.size rfl (.tmp 51) (.tmp 57) 54 5 (.int .u8 0) 1 rfl Try.underlying54 info5 rfl (by decide) (by omega) u7 (outL n 1 ++ hex8 x m) (hexd x m) [.int .u8 (hexd x m)] (fun _ => True) (fun _ => False) rfl rfl ?aP (fun _ hk => hk.elim) ?aF ?aO ?aB ?aS ?aL ?_; (case aP => exact rfl); (case aB => exact (by repeat (first | (with_reducible first | exact HB.out | apply below_alloc | apply pw_below_drewN | apply below_drew1) | exact HB.out))); (case aF => exact (fun _ _ => trivial)); (case aO => exact (by (with_reducible repeat (first | apply Kd.R_alloc | apply Kd.R_drewN | apply Kd.R_drew)); exact HO.out)); (case aS => exact (below_size (by repeat (first | (with_reducible first | exact HB.out | apply below_alloc | apply pw_below_drewN | apply below_drew1) | exact HB.out)))); (case aL => have := hlen.out m hm; omega); intro v103 w19 ho hb hg hat; have n0_ := Aside0.mk (hb); have n1_ := Aside0.mk (ho); clear HB; clear HO; have HB := n0_; have HO := n1_; clear n0_ n1_; clear ho hb hg hat)))
                      go_roundw
                      case rel => exact ⟨m + 1, by omega, by go_num, ⟨by rw [List.append_assoc] at *; exact HO.out⟩, HB⟩
                      case measure => simp [intOf]; omega
                    · obtain rfl : m = 8 := by omega
                      have hx3 := hx'.out
                      clear hx' hlen hx0 hx1
                      subst hx3
                      go_wp2_with fail
                      go_roundw
                      case rel => exact ⟨2, by omega, rfl, HO, HB⟩
                      case measure => simp [intOf]
                case inr.inr.inl =>
                  have i0 : ∀ w, (Instr.index 69 (.agg #[.int .u32 n.1, .int .u32 n.2.1, .int .u32 n.2.2.1, .int .u32 n.2.2.2]) (.int .i64 2)).run Try.prog w = .ok (.int .u32 n.2.2.1) w := fun _ => by kernel_rfl
                  obtain ⟨x, hx⟩ : ∃ x, x = n.2.2.1 := ⟨_, rfl⟩
                  rw [show ((2 : Nat) : Int) = 2 from rfl]
                  go_wp2_with fail
                  rw [← hx]
                  have hx0 : 0 ≤ x := by rw [hx]; exact (hrange 2).1
                  have hx1 : x < 4294967296 := by rw [hx]; exact (hrange 2).2
                  have hx' := Lib.hid hx
                  have hlen := Lib.hid (fun (m : Nat) (hm : m ≤ 8) => len_at n x 2 m (by omega) hm)
                  clear hx i0
                  go_loopw [7, 10] (fun v i wr => ∃ m : Nat, m ≤ 8 ∧ i = .int .i64 (28 - 4 * m) ∧ Aside0 (Kd.R (Kd.int .u8) 5 wr w.heap.size (fun _ => True) v (outL n 2 ++ hex8 x m)) ∧ Aside0 (Below w.heap.size w wr)) (fun _ i _ => (intOf i + 4).toNat)
                  case atStart => exact ⟨0, Nat.zero_le _, rfl, ⟨by simpa [hex8] using HO.out⟩, HB⟩
                  case round =>
                    clear HO HB
                    obtain ⟨m, hm, rfl, HO, HB⟩ := hrel
                    by_cases hm8 : m < 8
                    · have hxd := bt_at (⟨#[48, 49, 50, 51, 52, 53, 54, 55, 56, 57, 97, 98, 99, 100, 101, 102]⟩ : ByteArray) (Go.bits .and .u32 (x / 2 ^ (28 - 4 * m)) 15)
                      have px := hexd_at hx0 hx1 m
                      obtain ⟨p17, q17⟩ := px
                      replace p17 := eq_true p17
                      replace q17 := eq_true q17
                      go_wp2_with (first | ((with_reducible refine gate_builtin (b := .append) (xs := #[.tmp 51, .tmp 57]) rfl ?_); at_builtin; (refine Kd.R_append (Kd.int .u8) (w0 := w) w.heap.size rfl (.tmp 51) (.tmp 57) 54 5 (.int .u8 0) 1 rfl Try.underlying54 info5 rfl (by decide) (by omega) u7 (outL n 2 ++ hex8 x m) (hexd x m) [.int .u8 (hexd x m)] (fun _ => True) (fun _ => False) rfl rfl ?aP (fun _ hk => hk.elim) ?aF ?aO ?aB ?aS ?aL ?_; (case aP => exact rfl); (case aB => exact (by repeat (first | (with_reducible first | exact HB.out | apply below_alloc | apply pw_below_drewN | apply below_drew1) | exact HB.out))); (case aF => exact (fun _ _ => trivial)); (case aO => exact (by (with_reducible repeat (first | apply Kd.R_alloc | apply Kd.R_drewN | apply Kd.R_drew)); exact HO.out)); (case aS => exact (below_size (by repeat (first | (with_reducible first | exact HB.out | apply below_alloc | apply pw_below_drewN | apply below_drew1) | exact HB.out)))); (case aL => have := hlen.out m hm; omega); intro v103 w19 ho hb hg hat; have n0_ := Aside0.mk (hb); have n1_ := Aside0.mk (ho); clear HB; clear HO; have HB := n0_; have HO := n1_; clear n0_ n1_; clear ho hb hg hat)))
                      go_roundw
                      case rel => exact ⟨m + 1, by omega, by go_num, ⟨by rw [List.append_assoc] at *; exact HO.out⟩, HB⟩
                      case measure => simp [intOf]; omega
                    · obtain rfl : m = 8 := by omega
                      have hx3 := hx'.out
                      clear hx' hlen hx0 hx1
                      subst hx3
                      go_wp2_with fail
                      go_roundw
                      case rel => exact ⟨3, by omega, rfl, HO, HB⟩
                      case measure => simp [intOf]
                case inr.inr.inr.inl =>
                  have i0 : ∀ w, (Instr.index 69 (.agg #[.int .u32 n.1, .int .u32 n.2.1, .int .u32 n.2.2.1, .int .u32 n.2.2.2]) (.int .i64 3)).run Try.prog w = .ok (.int .u32 n.2.2.2) w := fun _ => by kernel_rfl
                  obtain ⟨x, hx⟩ : ∃ x, x = n.2.2.2 := ⟨_, rfl⟩
                  rw [show ((3 : Nat) : Int) = 3 from rfl]
                  go_wp2_with fail
                  rw [← hx]
                  have hx0 : 0 ≤ x := by rw [hx]; exact (hrange 3).1
                  have hx1 : x < 4294967296 := by rw [hx]; exact (hrange 3).2
                  have hx' := Lib.hid hx
                  have hlen := Lib.hid (fun (m : Nat) (hm : m ≤ 8) => len_at n x 3 m (by omega) hm)
                  clear hx i0
                  go_loopw [7, 10] (fun v i wr => ∃ m : Nat, m ≤ 8 ∧ i = .int .i64 (28 - 4 * m) ∧ Aside0 (Kd.R (Kd.int .u8) 5 wr w.heap.size (fun _ => True) v (outL n 3 ++ hex8 x m)) ∧ Aside0 (Below w.heap.size w wr)) (fun _ i _ => (intOf i + 4).toNat)
                  case atStart => exact ⟨0, Nat.zero_le _, rfl, ⟨by simpa [hex8] using HO.out⟩, HB⟩
                  case round =>
                    clear HO HB
                    obtain ⟨m, hm, rfl, HO, HB⟩ := hrel
                    by_cases hm8 : m < 8
                    · have hxd := bt_at (⟨#[48, 49, 50, 51, 52, 53, 54, 55, 56, 57, 97, 98, 99, 100, 101, 102]⟩ : ByteArray) (Go.bits .and .u32 (x / 2 ^ (28 - 4 * m)) 15)
                      have px := hexd_at hx0 hx1 m
                      obtain ⟨p17, q17⟩ := px
                      replace p17 := eq_true p17
                      replace q17 := eq_true q17
                      go_wp2_with (first | ((with_reducible refine gate_builtin (b := .append) (xs := #[.tmp 51, .tmp 57]) rfl ?_); at_builtin; (refine Kd.R_append (Kd.int .u8) (w0 := w) w.heap.size rfl (.tmp 51) (.tmp 57) 54 5 (.int .u8 0) 1 rfl Try.underlying54 info5 rfl (by decide) (by omega) u7 (outL n 3 ++ hex8 x m) (hexd x m) [.int .u8 (hexd x m)] (fun _ => True) (fun _ => False) rfl rfl ?aP (fun _ hk => hk.elim) ?aF ?aO ?aB ?aS ?aL ?_; (case aP => exact rfl); (case aB => exact (by repeat (first | (with_reducible first | exact HB.out | apply below_alloc | apply pw_below_drewN | apply below_drew1) | exact HB.out))); (case aF => exact (fun _ _ => trivial)); (case aO => exact (by (with_reducible repeat (first | apply Kd.R_alloc | apply Kd.R_drewN | apply Kd.R_drew)); exact HO.out)); (case aS => exact (below_size (by repeat (first | (with_reducible first | exact HB.out | apply below_alloc | apply pw_below_drewN | apply below_drew1) | exact HB.out)))); (case aL => have := hlen.out m hm; omega); intro v103 w19 ho hb hg hat; have n0_ := Aside0.mk (hb); have n1_ := Aside0.mk (ho); clear HB; clear HO; have HB := n0_; have HO := n1_; clear n0_ n1_; clear ho hb hg hat)))
                      go_roundw
                      case rel => exact ⟨m + 1, by omega, by go_num, ⟨by rw [List.append_assoc] at *; exact HO.out⟩, HB⟩
                      case measure => simp [intOf]; omega
                    · obtain rfl : m = 8 := by omega
                      have hx3 := hx'.out
                      clear hx' hlen hx0 hx1
                      subst hx3
                      go_wp2_with fail
                      go_roundw
                      case rel => exact ⟨4, by omega, rfl, HO, HB⟩
                      case measure => simp [intOf]
        case inl =>
          go_wp2_with fail
          refine (take_step' _ _ (run2 (run1 s s.size) s.size 0) ((s.size : Int) / (256 : Int) ^ 0 % 256) _ ?e w wr hf hb.out (Nat.le_refl _)).mono ?_
          case e =>
            rw [and255 (by omega) (by omega)]
            show _ = (s.size : Int) / 1 % 256
            omega
          rintro e w2 ⟨rfl, hf2, hb2⟩
          have hf2' := Lib.hid hf2
          have hb2' := Lib.hid hb2
          clear hf2 hb2
          go_wp2_with fail
          go_roundw
          case rel => exact ⟨1, by omega, rfl, hf2', hb2'⟩
          case measure => simp [intOf]
        case inr.inl =>
          go_wp2_with fail
          refine (take_step' _ _ (run2 (run1 s s.size) s.size 1) ((s.size : Int) / (256 : Int) ^ 1 % 256) _ ?e w wr hf hb.out (Nat.le_refl _)).mono ?_
          case e =>
            rw [and255 (by omega) (by omega)]
            show _ = (s.size : Int) / 256 % 256
            omega
          rintro e w2 ⟨rfl, hf2, hb2⟩
          have hf2' := Lib.hid hf2
          have hb2' := Lib.hid hb2
          clear hf2 hb2
          go_wp2_with fail
          go_roundw
          case rel => exact ⟨2, by omega, rfl, hf2', hb2'⟩
          case measure => simp [intOf]
        case inr.inr.inl =>
          go_wp2_with fail
          refine (take_step' _ _ (run2 (run1 s s.size) s.size 2) ((s.size : Int) / (256 : Int) ^ 2 % 256) _ ?e w wr hf hb.out (Nat.le_refl _)).mono ?_
          case e =>
            rw [and255 (by omega) (by omega)]
            show _ = (s.size : Int) / 65536 % 256
            omega
          rintro e w2 ⟨rfl, hf2, hb2⟩
          have hf2' := Lib.hid hf2
          have hb2' := Lib.hid hb2
          clear hf2 hb2
          go_wp2_with fail
          go_roundw
          case rel => exact ⟨3, by omega, rfl, hf2', hb2'⟩
          case measure => simp [intOf]
        case inr.inr.inr.inl =>
          go_wp2_with fail
          refine (take_step' _ _ (run2 (run1 s s.size) s.size 3) ((s.size : Int) / (256 : Int) ^ 3 % 256) _ ?e w wr hf hb.out (Nat.le_refl _)).mono ?_
          case e =>
            rw [and255 (by omega) (by omega)]
            show _ = (s.size : Int) / 16777216 % 256
            omega
          rintro e w2 ⟨rfl, hf2, hb2⟩
          have hf2' := Lib.hid hf2
          have hb2' := Lib.hid hb2
          clear hf2 hb2
          go_wp2_with fail
          go_roundw
          case rel => exact ⟨4, by omega, rfl, hf2', hb2'⟩
          case measure => simp [intOf]
def asset_Digest.f (a0 : ByteArray) : Option ByteArray := if a0.size ≤ 9223372036854775807 then some (digestS a0) else none
theorem asset_Digest.calls (a0 : ByteArray) (r : ByteArray) (w : World) (h : asset_Digest.f a0 = some r) :
    Calls Try.prog 20 #[.string a0] w fun e w' => e = .returned (.string r) ∧ Below w.heap.size w w' := by
  unfold asset_Digest.f at h
  by_cases c : a0.size ≤ 9223372036854775807
  · rw [if_pos c] at h
    cases h
    exact digest_any a0 w (by unfold maxLen; omega)
  · rw [if_neg c] at h; cases h


/-! ### mastkeep2_awakeAsset: function 6 -/
def mastkeep2_awakeAsset.f : Option Bool := some true
theorem digestS_len (s : ByteArray) : (digestS s).toList.length = 32 := by
  rw [ByteArray.toList_eq]
  show ((outL _ 4).map (fun n => UInt8.ofNat n.toNat)).length = 32
  rw [List.length_map, outL_len]
theorem mastkeep2_awakeAsset.calls (r : Bool) (w : World) (h : mastkeep2_awakeAsset.f = some r) :
    Calls Try.prog 6 #[] w fun e w' => e = .returned (.bool r) ∧ Below w.heap.size w w' := by
  cases h
  have hd : (!((digestS ⟨#[]⟩).toList.isEmpty)) = true := by
    have h := digestS_len ⟨#[]⟩
    cases hc : (digestS ⟨#[]⟩).toList with
    | nil => rw [hc] at h; cases h
    | cons _ _ => rfl
  go_enter Try.func6, Try.ntmps6
  go_wp2_with fail
  refine (digest_any ⟨#[]⟩ w (by unfold maxLen; decide)).mono ?_
  rintro e w' ⟨rfl, hb⟩
  generalize digestS ⟨#[]⟩ = d at *
  go_wp2
  go_ret
  exact ⟨rfl, hb⟩

/-! ### asset_Encode64: function 7 -/
mutual
def asset_Encode64.l0 : Nat → ByteArray → List Int → Int → Option (ByteArray × Int)
  | 0, _, _, _ => none
  | k + 1, x0, x4, x5 => if x5 < (x0.size : Int) then (asset_Encode64.l1 k x0 x4 x5 0 (mn 3 (wrap64 ((x0.size : Int) - x5))) 0) else (some (strOfNums x4, 0))
def asset_Encode64.l1 : Nat → ByteArray → List Int → Int → Int → Int → Int → Option (ByteArray × Int)
  | 0, _, _, _, _, _, _ => none
  | k + 1, x0, x4, x5, x6, x7, x24 => if x24 < 3 then (if x24 < x7 then (if 0 ≤ (wrap64 (x5 + x24)) then (if (wrap64 (x5 + x24)) < (x0.size : Int) then (asset_Encode64.l1 k x0 x4 x5 (wrap64 ((wrap64 (x6 * 256)) + (wrap64 (bt x0 (wrap64 (x5 + x24)))))) x7 (wrap64 (x24 + 1))) else (none)) else (none)) else (asset_Encode64.l1 k x0 x4 x5 (wrap64 (x6 * 256)) x7 (wrap64 (x24 + 1)))) else (asset_Encode64.l2 k x0 x4 x5 x6 (wrap64 (x7 + 1)) 0)
def asset_Encode64.l2 : Nat → ByteArray → List Int → Int → Int → Int → Int → Option (ByteArray × Int)
  | 0, _, _, _, _, _, _ => none
  | k + 1, x0, x4, x5, x6, x42, x43 => if x43 < x42 then (if 0 ≤ (wrap64 (18 - (wrap64 (6 * x43)))) then (if 0 ≤ (Go.bits .and .i64 (shr .i64 x6 (wrap64 (18 - (wrap64 (6 * x43))))) 63) then (if (Go.bits .and .i64 (shr .i64 x6 (wrap64 (18 - (wrap64 (6 * x43))))) 63) < 64 then (if x4.length < 140737488355328 then (asset_Encode64.l2 k x0 (x4 ++ [bt (⟨#[65, 66, 67, 68, 69, 70, 71, 72, 73, 74, 75, 76, 77, 78, 79, 80, 81, 82, 83, 84, 85, 86, 87, 88, 89, 90, 97, 98, 99, 100, 101, 102, 103, 104, 105, 106, 107, 108, 109, 110, 111, 112, 113, 114, 115, 116, 117, 118, 119, 120, 121, 122, 48, 49, 50, 51, 52, 53, 54, 55, 56, 57, 45, 95]⟩ : ByteArray) (Go.bits .and .i64 (shr .i64 x6 (wrap64 (18 - (wrap64 (6 * x43))))) 63)]) x5 x6 x42 (wrap64 (x43 + 1))) else (none)) else (none)) else (none)) else (none)) else (asset_Encode64.l0 k x0 x4 (wrap64 (x5 + 3)))
end
def asset_Encode64.f (k : Nat) (a0 : ByteArray) : Option (ByteArray × Int) := if (a0.size : Int) > 20000 then (some ((⟨#[]⟩ : ByteArray), 4)) else (asset_Encode64.l0 k a0 ([] : List Int) 0)
theorem asset_Encode64.mono_l : ∀ k, (∀ y0 y1 y2, LeO (asset_Encode64.l0 k y0 y1 y2) (asset_Encode64.l0 (k + 1) y0 y1 y2)) ∧ (∀ y0 y1 y2 y3 y4 y5, LeO (asset_Encode64.l1 k y0 y1 y2 y3 y4 y5) (asset_Encode64.l1 (k + 1) y0 y1 y2 y3 y4 y5)) ∧ (∀ y0 y1 y2 y3 y4 y5, LeO (asset_Encode64.l2 k y0 y1 y2 y3 y4 y5) (asset_Encode64.l2 (k + 1) y0 y1 y2 y3 y4 y5))
  | 0 => ⟨fun _ _ _ r h => by simp [asset_Encode64.l0] at h, fun _ _ _ _ _ _ r h => by simp [asset_Encode64.l1] at h, fun _ _ _ _ _ _ r h => by simp [asset_Encode64.l2] at h⟩
  | k + 1 => by
    obtain ⟨ih0, ih1, ih2⟩ := asset_Encode64.mono_l k
    refine ⟨?_, ?_, ?_⟩
    · intro y0 y1 y2
      unfold asset_Encode64.l0
      repeat' first
      | (with_reducible exact ih0 _ _ _)
      | (with_reducible exact ih1 _ _ _ _ _ _)
      | (with_reducible exact ih2 _ _ _ _ _ _)
      | (with_reducible exact LeO.refl _)
      | (with_reducible exact LeO.none _)
      | (with_reducible refine LeO.ite ?_ ?_)
      | (with_reducible refine LeO.bind ?_ (fun _ => ?_))
      | exact ih0 _ _ _
      | exact ih1 _ _ _ _ _ _
      | exact ih2 _ _ _ _ _ _
      | exact LeO.none _
      | refine LeO.ite ?_ ?_
      | refine LeO.bind ?_ (fun _ => ?_)
    · intro y0 y1 y2 y3 y4 y5
      unfold asset_Encode64.l1
      repeat' first
      | (with_reducible exact ih0 _ _ _)
      | (with_reducible exact ih1 _ _ _ _ _ _)
      | (with_reducible exact ih2 _ _ _ _ _ _)
      | (with_reducible exact LeO.refl _)
      | (with_reducible exact LeO.none _)
      | (with_reducible refine LeO.ite ?_ ?_)
      | (with_reducible refine LeO.bind ?_ (fun _ => ?_))
      | exact ih0 _ _ _
      | exact ih1 _ _ _ _ _ _
      | exact ih2 _ _ _ _ _ _
      | exact LeO.none _
      | refine LeO.ite ?_ ?_
      | refine LeO.bind ?_ (fun _ => ?_)
    · intro y0 y1 y2 y3 y4 y5
      unfold asset_Encode64.l2
      repeat' first
      | (with_reducible exact ih0 _ _ _)
      | (with_reducible exact ih1 _ _ _ _ _ _)
      | (with_reducible exact ih2 _ _ _ _ _ _)
      | (with_reducible exact LeO.refl _)
      | (with_reducible exact LeO.none _)
      | (with_reducible refine LeO.ite ?_ ?_)
      | (with_reducible refine LeO.bind ?_ (fun _ => ?_))
      | exact ih0 _ _ _
      | exact ih1 _ _ _ _ _ _
      | exact ih2 _ _ _ _ _ _
      | exact LeO.none _
      | refine LeO.ite ?_ ?_
      | refine LeO.bind ?_ (fun _ => ?_)
theorem asset_Encode64.mono : ∀ a0 k, LeO (asset_Encode64.f k a0) (asset_Encode64.f (k + 1) a0) := by
  intro a0 k
  obtain ⟨ih0, ih1, ih2⟩ := asset_Encode64.mono_l k
  unfold asset_Encode64.f
  repeat' first
      | (with_reducible exact ih0 _ _ _)
      | (with_reducible exact ih1 _ _ _ _ _ _)
      | (with_reducible exact ih2 _ _ _ _ _ _)
      | (with_reducible exact LeO.refl _)
      | (with_reducible exact LeO.none _)
      | (with_reducible refine LeO.ite ?_ ?_)
      | (with_reducible refine LeO.bind ?_ (fun _ => ?_))
      | exact ih0 _ _ _
      | exact ih1 _ _ _ _ _ _
      | exact ih2 _ _ _ _ _ _
      | exact LeO.none _
      | refine LeO.ite ?_ ?_
      | refine LeO.bind ?_ (fun _ => ?_)
set_option maxHeartbeats 8000000 in
set_option maxRecDepth 100000 in
theorem asset_Encode64.calls (k : Nat) (a0 : ByteArray) (r1 : ByteArray) (r2 : Int) (w : World) (h : asset_Encode64.f k a0 = some (r1, r2)) :
    Calls Try.prog 7 #[.string a0] w fun e w' => e = .returned (.tuple #[.string r1, .int .i64 r2]) ∧ Below w.heap.size w w' := by
  have HB := Aside0.mk (Below.refl w.heap.size w)
  have H : (if (a0.size : Int) > 20000 then (some ((⟨#[]⟩ : ByteArray), 4)) else (asset_Encode64.l0 k a0 ([] : List Int) 0)) = some (r1, r2) := h
  clear h
  by_cases c2 : (a0.size : Int) > 20000
  · rw [if_pos c2] at H
    have c2b0 : decide (20000 < (a0.size : Int)) = true := decide_eq_true c2
    have c2b1 : decide (20000 < a0.size) = true := decide_eq_true (by omega)
    clear c2
    simp only [Option.some.injEq, Prod.mk.injEq] at H
    obtain ⟨rfl, rfl⟩ := H
    go_enter Try.func7, Try.ntmps7
    go_wp2
    go_ret2
    exact ⟨by first | rfl | (simp [errW_none, errW_some] <;> rfl) | (simp [*, errW_none, errW_some] <;> rfl), by repeat (first | (with_reducible first | exact HB.out | apply below_alloc | apply pw_below_drewN | apply below_drew1) | exact HB.out)⟩
  · rw [if_neg c2] at H
    have c2b0 : decide (20000 < (a0.size : Int)) = false := decide_eq_false c2
    have c2b1 : decide (20000 < a0.size) = false := decide_eq_false (by omega)
    clear c2
    have H' := Aside0.mk H
    clear H
    go_enter Try.func7, Try.ntmps7
    go_wp2
    go_loopg [4, 5] k (fun kq v4 v5 w' => ∃ (x4_1 : List Int) (x5_1 : Int), v5 = .int .i64 x5_1 ∧ Aside0 (asset_Encode64.l0 kq a0 x4_1 x5_1 = some (r1, r2)) ∧ Aside0 (kq ≤ k) ∧ Aside0 (Kd.R (Kd.int .u8) 5 w' w.heap.size (fun _ => True) v4 x4_1) ∧ Aside0 (Below w.heap.size w w'))
    case atStart => exact ⟨(([] : List Int)), (0), (by first | rfl | (simp; done) | (simp [*]; done)), H', ⟨Nat.le_refl _⟩, ⟨by first | exact Kd.R_nil _ _ _ _ _ | exact Kd.N_nil _ _ _ _ _ | exact Kd.V_nil _ _ _ _ _ | exact Kd.Q_nil _ _ _ _ _ | exact Kd.S_nil _ _ _ _ _⟩, ⟨by repeat (first | (with_reducible first | exact HB.out | apply below_alloc | apply pw_below_drewN | apply below_drew1) | exact HB.out)⟩⟩
    case round =>
      clear H'
      try clear c2
      try clear c2b0
      try clear c2b1
      try clear p2
      obtain ⟨x4_1, x5_1, rfl, HA, HK1, HO_4, HB⟩ := hrel
      cases gk with
      | zero => exact absurd HA.out (by simp [asset_Encode64.l0])
      | succ k1 =>
        have H := HA.out
        clear HA
        simp only [asset_Encode64.l0] at H
        by_cases c3 : x5_1 < (a0.size : Int)
        · rw [if_pos c3] at H
          have c3b0 : decide (x5_1 < (a0.size : Int)) = true := decide_eq_true c3
          clear c3
          obtain ⟨ji4, hji4⟩ : ∃ j_ : Int, (mn 3 (wrap64 ((a0.size : Int) - x5_1))) = j_ := ⟨_, rfl⟩
          replace H : (asset_Encode64.l1 k1 a0 x4_1 x5_1 0 ji4 0) = some (r1, r2) := by first | (rw [hji4] at H; exact H) | (simp only [hji4] at H ⊢; exact H)
          have hji4_ : (if (wrap64 ((a0.size : Int) - x5_1)) < 3 then (wrap64 ((a0.size : Int) - x5_1)) else 3) = ji4 := hji4
          have H' := Aside0.mk H
          clear H
          go_wp2
          go_loopg [6, 24] k1 (fun kq v6 v24 w' => ∃ (x6_2 : Int) (x24_2 : Int), v6 = .int .i64 x6_2 ∧ v24 = .int .i64 x24_2 ∧ Aside0 (asset_Encode64.l1 kq a0 x4_1 x5_1 x6_2 ji4 x24_2 = some (r1, r2)) ∧ Aside0 (kq ≤ k1) ∧ Aside0 (Kd.R (Kd.int .u8) 5 w' w.heap.size (fun _ => True) u4 x4_1) ∧ Aside0 (Below w.heap.size w w'))
          case atStart => exact ⟨(0), (0), (by first | rfl | (simp; done) | (simp [*]; done)), (by first | rfl | (simp; done) | (simp [*]; done)), H', ⟨Nat.le_refl _⟩, ⟨by (with_reducible repeat (first | apply Kd.R_alloc | apply Kd.R_drewN | apply Kd.R_drew)); exact HO_4.out⟩, ⟨by repeat (first | (with_reducible first | exact HB.out | apply below_alloc | apply pw_below_drewN | apply below_drew1) | exact HB.out)⟩⟩
          case round =>
            clear H'
            try clear c2
            try clear c2b0
            try clear c2b1
            try clear p2
            try clear c3
            try clear c3b0
            try clear p2
            obtain ⟨x6_2, x24_2, rfl, rfl, HA, HK2, HO_4, HB⟩ := hrel
            cases gk with
            | zero => exact absurd HA.out (by simp [asset_Encode64.l1])
            | succ k2 =>
              have H := HA.out
              clear HA
              simp only [asset_Encode64.l1] at H
              by_cases c5 : x24_2 < 3
              · rw [if_pos c5] at H
                have c5b0 : decide (x24_2 < 3) = true := decide_eq_true c5
                clear c5
                by_cases c6 : x24_2 < ji4
                · rw [if_pos c6] at H
                  have c6b0 : decide (x24_2 < ji4) = true := decide_eq_true c6
                  clear c6
                  obtain ⟨ji7, hji7⟩ : ∃ j_ : Int, (wrap64 (x5_1 + x24_2)) = j_ := ⟨_, rfl⟩
                  replace H : (if 0 ≤ (ji7) then (if (ji7) < (a0.size : Int) then (asset_Encode64.l1 k2 a0 x4_1 x5_1 (wrap64 ((wrap64 (x6_2 * 256)) + (wrap64 (bt a0 (ji7))))) ji4 (wrap64 (x24_2 + 1))) else (none)) else (none)) = some (r1, r2) := by first | (rw [hji7] at H; exact H) | (simp only [hji7] at H ⊢; exact H)
                  have hji7w : (IntKind.i64.wrap (x5_1 + x24_2)) = ji7 := (i64_w _).trans hji7
                  by_cases c8 : 0 ≤ (ji7)
                  · rw [if_pos c8] at H
                    have c8b0 : decide (0 ≤ (ji7)) = true := decide_eq_true c8
                    clear c8
                    by_cases c9 : (ji7) < (a0.size : Int)
                    · rw [if_pos c9] at H
                      have c9b0 : decide ((ji7) < (a0.size : Int)) = true := decide_eq_true c9
                      clear c9
                      have H' := Aside0.mk H
                      clear H
                      have p10 : 0 ≤ ((ji7) : Int) := of_decide_eq_true (by first | (with_reducible assumption) | assumption)
                      have q10 : (ji7) < (a0.size : Int) := of_decide_eq_true (by first | (with_reducible assumption) | assumption)
                      have hx10 := bt_at a0 (ji7)
                      replace p10 := eq_true p10
                      replace q10 := eq_true q10
                      go_wp2
                      go_roundg k2
                      case measure => have := HK1.out; have := HK2.out; omega
                      case rel => exact ⟨(wrap64 ((wrap64 (x6_2 * 256)) + (wrap64 (bt a0 (ji7))))), (wrap64 (x24_2 + 1)), (by first | rfl | (simp; done) | (simp only [← hji7] <;> (first | rfl | simp)) | (simp [*]; done)), (by first | rfl | (simp; done) | (simp [*]; done)), H', ⟨by have := HK1.out; have := HK2.out; omega⟩, ⟨by (with_reducible repeat (first | apply Kd.R_alloc | apply Kd.R_drewN | apply Kd.R_drew)); exact HO_4.out⟩, ⟨by repeat (first | (with_reducible first | exact HB.out | apply below_alloc | apply pw_below_drewN | apply below_drew1) | exact HB.out)⟩⟩
                    · rw [if_neg c9] at H
                      exact absurd H (by simp)
                  · rw [if_neg c8] at H
                    exact absurd H (by simp)
                · rw [if_neg c6] at H
                  have c6b0 : decide (x24_2 < ji4) = false := decide_eq_false c6
                  clear c6
                  have H' := Aside0.mk H
                  clear H
                  go_wp2
                  go_roundg k2
                  case measure => have := HK1.out; have := HK2.out; omega
                  case rel => exact ⟨(wrap64 (x6_2 * 256)), (wrap64 (x24_2 + 1)), (by first | rfl | (simp; done) | (simp [*]; done)), (by first | rfl | (simp; done) | (simp [*]; done)), H', ⟨by have := HK1.out; have := HK2.out; omega⟩, ⟨by (with_reducible repeat (first | apply Kd.R_alloc | apply Kd.R_drewN | apply Kd.R_drew)); exact HO_4.out⟩, ⟨by repeat (first | (with_reducible first | exact HB.out | apply below_alloc | apply pw_below_drewN | apply below_drew1) | exact HB.out)⟩⟩
              · rw [if_neg c5] at H
                have c5b0 : decide (x24_2 < 3) = false := decide_eq_false c5
                clear c5
                have H' := Aside0.mk H
                clear H
                go_wp2
                go_loopg [4, 43] k2 (fun kq v4 v43 w' => ∃ (x4_3 : List Int) (x43_3 : Int), v43 = .int .i64 x43_3 ∧ Aside0 (asset_Encode64.l2 kq a0 x4_3 x5_1 x6_2 (wrap64 (ji4 + 1)) x43_3 = some (r1, r2)) ∧ Aside0 (kq ≤ k2) ∧ Aside0 (Kd.R (Kd.int .u8) 5 w' w.heap.size (fun _ => True) v4 x4_3) ∧ Aside0 (Below w.heap.size w w'))
                case atStart => exact ⟨(x4_1), (0), (by first | rfl | (simp; done) | (simp [*]; done)), H', ⟨Nat.le_refl _⟩, ⟨by (with_reducible repeat (first | apply Kd.R_alloc | apply Kd.R_drewN | apply Kd.R_drew)); exact HO_4.out⟩, ⟨by repeat (first | (with_reducible first | exact HB.out | apply below_alloc | apply pw_below_drewN | apply below_drew1) | exact HB.out)⟩⟩
                case round =>
                  clear H'
                  try clear p1
                  try clear q1
                  try clear hx1
                  try clear c2
                  try clear c2b0
                  try clear c2b1
                  try clear p2
                  try clear c3
                  try clear c3b0
                  try clear c5
                  try clear c5b0
                  try clear c6
                  try clear c6b0
                  try clear p6
                  try clear c7
                  try clear c8
                  try clear c8b0
                  try clear c9
                  try clear c9b0
                  try clear p10
                  try clear q10
                  try clear hx10
                  try clear p10
                  try clear p2
                  try clear q10
                  obtain ⟨x4_3, x43_3, rfl, HA, HK3, HO_4, HB⟩ := hrel
                  cases gk with
                  | zero => exact absurd HA.out (by simp [asset_Encode64.l2])
                  | succ k3 =>
                    have H := HA.out
                    clear HA
                    simp only [asset_Encode64.l2] at H
                    by_cases c11 : x43_3 < (wrap64 (ji4 + 1))
                    · rw [if_pos c11] at H
                      have c11b0 : decide (x43_3 < (wrap64 (ji4 + 1))) = true := decide_eq_true c11
                      clear c11
                      obtain ⟨ji12, hji12⟩ : ∃ j_ : Int, (wrap64 (18 - (wrap64 (6 * x43_3)))) = j_ := ⟨_, rfl⟩
                      replace H : (if 0 ≤ (ji12) then (if 0 ≤ (Go.bits .and .i64 (shr .i64 x6_2 (ji12)) 63) then (if (Go.bits .and .i64 (shr .i64 x6_2 (ji12)) 63) < 64 then (if x4_3.length < 140737488355328 then (asset_Encode64.l2 k3 a0 (x4_3 ++ [bt (⟨#[65, 66, 67, 68, 69, 70, 71, 72, 73, 74, 75, 76, 77, 78, 79, 80, 81, 82, 83, 84, 85, 86, 87, 88, 89, 90, 97, 98, 99, 100, 101, 102, 103, 104, 105, 106, 107, 108, 109, 110, 111, 112, 113, 114, 115, 116, 117, 118, 119, 120, 121, 122, 48, 49, 50, 51, 52, 53, 54, 55, 56, 57, 45, 95]⟩ : ByteArray) (Go.bits .and .i64 (shr .i64 x6_2 (ji12)) 63)]) x5_1 x6_2 (wrap64 (ji4 + 1)) (wrap64 (x43_3 + 1))) else (none)) else (none)) else (none)) else (none)) = some (r1, r2) := by first | (rw [hji12] at H; exact H) | (simp only [hji12] at H ⊢; exact H)
                      have hji12w : (IntKind.i64.wrap (18 - (wrap64 (6 * x43_3)))) = ji12 := (i64_w _).trans hji12
                      by_cases c13 : 0 ≤ (ji12)
                      · rw [if_pos c13] at H
                        have c13b0 := eq_true c13
                        have c13b1 : decide (0 ≤ (ji12)) = true := decide_eq_true c13
                        clear c13
                        obtain ⟨ji14, hji14⟩ : ∃ j_ : Int, (shr .i64 x6_2 (ji12)) = j_ := ⟨_, rfl⟩
                        replace H : (if 0 ≤ (Go.bits .and .i64 (ji14) 63) then (if (Go.bits .and .i64 (ji14) 63) < 64 then (if x4_3.length < 140737488355328 then (asset_Encode64.l2 k3 a0 (x4_3 ++ [bt (⟨#[65, 66, 67, 68, 69, 70, 71, 72, 73, 74, 75, 76, 77, 78, 79, 80, 81, 82, 83, 84, 85, 86, 87, 88, 89, 90, 97, 98, 99, 100, 101, 102, 103, 104, 105, 106, 107, 108, 109, 110, 111, 112, 113, 114, 115, 116, 117, 118, 119, 120, 121, 122, 48, 49, 50, 51, 52, 53, 54, 55, 56, 57, 45, 95]⟩ : ByteArray) (Go.bits .and .i64 (ji14) 63)]) x5_1 x6_2 (wrap64 (ji4 + 1)) (wrap64 (x43_3 + 1))) else (none)) else (none)) else (none)) = some (r1, r2) := by first | (rw [hji14] at H; exact H) | (simp only [hji14] at H ⊢; exact H)
                        have hji14_ : (x6_2 / 2 ^ min (ji12).toNat 64) = ji14 := hji14
                        have hji14z : (ji12) ≤ 64 → (x6_2 / 2 ^ (ji12).toNat) = ji14 := shr_small hji14
                        by_cases c15 : 0 ≤ (Go.bits .and .i64 (ji14) 63)
                        · rw [if_pos c15] at H
                          have c15b0 : decide (0 ≤ (Go.bits .and .i64 (ji14) 63)) = true := decide_eq_true c15
                          clear c15
                          by_cases c16 : (Go.bits .and .i64 (ji14) 63) < 64
                          · rw [if_pos c16] at H
                            have c16b0 : decide ((Go.bits .and .i64 (ji14) 63) < 64) = true := decide_eq_true c16
                            clear c16
                            by_cases c18 : x4_3.length < 140737488355328
                            · rw [if_pos c18] at H
                              have LMc18 := Aside0.mk c18
                              clear c18
                              obtain ⟨y101, hy101⟩ : ∃ y_ : List Int, y_ = (x4_3 ++ [bt (⟨#[65, 66, 67, 68, 69, 70, 71, 72, 73, 74, 75, 76, 77, 78, 79, 80, 81, 82, 83, 84, 85, 86, 87, 88, 89, 90, 97, 98, 99, 100, 101, 102, 103, 104, 105, 106, 107, 108, 109, 110, 111, 112, 113, 114, 115, 116, 117, 118, 119, 120, 121, 122, 48, 49, 50, 51, 52, 53, 54, 55, 56, 57, 45, 95]⟩ : ByteArray) (Go.bits .and .i64 (ji14) 63)]) := ⟨_, rfl⟩
                              replace H : (asset_Encode64.l2 k3 a0 y101 x5_1 x6_2 (wrap64 (ji4 + 1)) (wrap64 (x43_3 + 1))) = some (r1, r2) := by first | (rw [hy101]; with_reducible exact H) | (have H2_ := (Option.bind_some _ _).symm.trans H; rw [hy101]; with_reducible exact H2_) | (have H2_ := (Option.bind_some _ _).symm.trans H; with_reducible exact H2_) | with_reducible exact H | (rw [hy101]; exact H) | exact H
                              have Ny101 := Aside0.mk hy101
                              clear hy101
                              have H' := Aside0.mk H
                              clear H
                              have p17 : 0 ≤ ((Go.bits .and .i64 (ji14) 63) : Int) := of_decide_eq_true (by first | (with_reducible assumption) | assumption)
                              have q17 : (Go.bits .and .i64 (ji14) 63) < (64 : Int) := of_decide_eq_true (by first | (with_reducible assumption) | assumption)
                              have hx17 := bt_at (⟨#[65, 66, 67, 68, 69, 70, 71, 72, 73, 74, 75, 76, 77, 78, 79, 80, 81, 82, 83, 84, 85, 86, 87, 88, 89, 90, 97, 98, 99, 100, 101, 102, 103, 104, 105, 106, 107, 108, 109, 110, 111, 112, 113, 114, 115, 116, 117, 118, 119, 120, 121, 122, 48, 49, 50, 51, 52, 53, 54, 55, 56, 57, 45, 95]⟩ : ByteArray) (Go.bits .and .i64 (ji14) 63)
                              replace p17 := eq_true p17
                              replace q17 := eq_true q17
                              go_wp2_with (first | ((with_reducible refine gate_builtin (b := .append) (xs := #[.tmp 46, .tmp 54]) rfl ?_); at_builtin; refine Kd.R_append (Kd.int .u8) (w0 := w) w.heap.size rfl (.tmp 46) (.tmp 54) 54 5 (.int .u8 0) 1 rfl Try.underlying54 info5 rfl (by decide) (by omega) u4 x4_3 (bt (⟨#[65, 66, 67, 68, 69, 70, 71, 72, 73, 74, 75, 76, 77, 78, 79, 80, 81, 82, 83, 84, 85, 86, 87, 88, 89, 90, 97, 98, 99, 100, 101, 102, 103, 104, 105, 106, 107, 108, 109, 110, 111, 112, 113, 114, 115, 116, 117, 118, 119, 120, 121, 122, 48, 49, 50, 51, 52, 53, 54, 55, 56, 57, 45, 95]⟩ : ByteArray) (Go.bits .and .i64 (ji14) 63)) [.int .u8 (bt (⟨#[65, 66, 67, 68, 69, 70, 71, 72, 73, 74, 75, 76, 77, 78, 79, 80, 81, 82, 83, 84, 85, 86, 87, 88, 89, 90, 97, 98, 99, 100, 101, 102, 103, 104, 105, 106, 107, 108, 109, 110, 111, 112, 113, 114, 115, 116, 117, 118, 119, 120, 121, 122, 48, 49, 50, 51, 52, 53, 54, 55, 56, 57, 45, 95]⟩ : ByteArray) (Go.bits .and .i64 (ji14) 63))] (fun _ => True) (fun _ => False) rfl rfl ?aP (fun _ hk => hk.elim) ?aF ?aO ?aB ?aS ?aL ?_; (case aP => exact rfl); (case aB => exact (by repeat (first | (with_reducible first | exact HB.out | apply below_alloc | apply pw_below_drewN | apply below_drew1) | exact HB.out))); (case aF => exact (fun _ _ => trivial)); (case aO => exact (by (with_reducible repeat (first | apply Kd.R_alloc | apply Kd.R_drewN | apply Kd.R_drew)); exact HO_4.out)); (case aS => exact (below_size (by repeat (first | (with_reducible first | exact HB.out | apply below_alloc | apply pw_below_drewN | apply below_drew1) | exact HB.out)))); (case aL => have := LMc18.out; omega); intro v102 w19 ho hb hg hat; rw [← Ny101.out] at ho; have n0_ := Aside0.mk (hb); have n1_ := Aside0.mk (ho); clear HB; clear HO_4; have HB := n0_; have HO103 := n1_; clear n0_ n1_; clear ho hb hg hat))
                              go_roundg k3
                              case measure => have := HK1.out; have := HK2.out; have := HK3.out; omega
                              case rel => exact ⟨(y101), (wrap64 (x43_3 + 1)), (by first | rfl | (simp; done) | (simp [*]; done)), H', ⟨by have := HK1.out; have := HK2.out; have := HK3.out; omega⟩, ⟨by (with_reducible repeat (first | apply Kd.R_alloc | apply Kd.R_drewN | apply Kd.R_drew)); exact HO103.out⟩, ⟨by repeat (first | (with_reducible first | exact HB.out | apply below_alloc | apply pw_below_drewN | apply below_drew1) | exact HB.out)⟩⟩
                            · rw [if_neg c18] at H
                              exact absurd H (by simp)
                          · rw [if_neg c16] at H
                            exact absurd H (by simp)
                        · rw [if_neg c15] at H
                          exact absurd H (by simp)
                      · rw [if_neg c13] at H
                        exact absurd H (by simp)
                    · rw [if_neg c11] at H
                      have c11b0 : decide (x43_3 < (wrap64 (ji4 + 1))) = false := decide_eq_false c11
                      clear c11
                      have H' := Aside0.mk H
                      clear H
                      go_wp2
                      go_roundg k3
                      case measure => have := HK1.out; have := HK2.out; have := HK3.out; omega
                      case rel => exact ⟨(x4_3), (wrap64 (x5_1 + 3)), (by first | rfl | (simp; done) | (simp [*]; done)), H', ⟨by have := HK1.out; have := HK2.out; have := HK3.out; omega⟩, ⟨by (with_reducible repeat (first | apply Kd.R_alloc | apply Kd.R_drewN | apply Kd.R_drew)); exact HO_4.out⟩, ⟨by repeat (first | (with_reducible first | exact HB.out | apply below_alloc | apply pw_below_drewN | apply below_drew1) | exact HB.out)⟩⟩
        · rw [if_neg c3] at H
          have c3b0 : decide (x5_1 < (a0.size : Int)) = false := decide_eq_false c3
          clear c3
          simp only [Option.some.injEq, Prod.mk.injEq] at H
          obtain ⟨rfl, rfl⟩ := H
          have hcv20 := own_string (P := Try.prog) Try.underlying54 Try.underlying5 Try.underlying9 (Kd.own_of_R HO_4.out)
          go_wp2
          go_ret2
          exact ⟨by first | rfl | (simp [errW_none, errW_some] <;> rfl) | (simp [*, errW_none, errW_some] <;> rfl), by repeat (first | (with_reducible first | exact HB.out | apply below_alloc | apply pw_below_drewN | apply below_drew1) | exact HB.out)⟩

/-! ### stringslite_IndexByte: function 33 -/
def stringslite_IndexByte.f (a0 : ByteArray) (a1 : Int) : Option Int := some (Lib.indexByte a0.data.toList a1.toNat.toUInt8)
set_option maxHeartbeats 1000000 in
set_option maxRecDepth 100000 in
theorem stringslite_IndexByte.calls (a0 : ByteArray) (a1 : Int) (r : Int) (w : World) (h : stringslite_IndexByte.f a0 a1 = some r) :
    Calls Try.prog 33 #[.string a0, .int .u8 a1] w fun e w' => e = .returned (.int .i64 r) ∧ Drawn0 w w' := by
  simp only [stringslite_IndexByte.f, Option.some.injEq] at h
  subst h
  go_enter Try.func33, Try.ntmps33
  go_wp2
  rw [run_callFunc_extern Try.func48 (by kernel_rfl) (by kernel_rfl) (by kernel_rfl) (e := Extern.BytealgIndexByte.indexByte) (by kernel_rfl), Lib.run_indexByteString]
  simp only [Result.andThen]
  rw [Oper.upon_value]
  go_wp2
  go_ret
  exact ⟨rfl, Drawn0.refl _⟩


/-! ### strings_IndexByte: function 21 -/
def strings_IndexByte.f (a0 : ByteArray) (a1 : Int) : Option Int := some (Lib.indexByte a0.data.toList a1.toNat.toUInt8)
set_option maxHeartbeats 1000000 in
theorem strings_IndexByte.calls (a0 : ByteArray) (a1 : Int) (r : Int) (w : World) (h : strings_IndexByte.f a0 a1 = some r) :
    Calls Try.prog 21 #[.string a0, .int .u8 a1] w fun e w' => e = .returned (.int .i64 r) ∧ Drawn0 w w' := by
  simp only [strings_IndexByte.f, Option.some.injEq] at h
  subst h
  go_enter Try.func21, Try.ntmps21
  go_wp2_with (go_at_call 33; refine (stringslite_IndexByte.calls _ _ _ _ rfl).mono ?_; rintro e w' ⟨rfl, ⟨⟨n, rfl⟩⟩⟩)
  go_ret
  exact ⟨rfl, ⟨⟨n, rfl⟩⟩⟩

end Go.Proofs.Ythagabjcoknogaa.PAssetCoded
