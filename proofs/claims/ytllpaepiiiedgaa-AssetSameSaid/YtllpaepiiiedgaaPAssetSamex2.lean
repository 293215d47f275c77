-- Made for this claim by a program of this session (xprint.py over the kit's printing program); Lean checks it.
import Derived.Test.YtllpaepiiiedgaaPAssetSamex0
namespace Go.Proofs.Ytllpaepiiiedgaa.PAssetSame
open Go.RowKit Go.Proofs.YtllpaepiiiedgaaW.PrintWords Go.Proofs.YtllpaepiiiedgaaW.PrintLast Go.Proofs.YtllpaepiiiedgaaW.PrintMore
attribute [local go_sem] max2_int min2_int max_two min_two max_three min_three max_four min_four   -- for this text's walks alone
set_option linter.unusedVariables false
set_option linter.unusedSimpArgs false

/-! ### asset_Digest: function 10 -/
theorem gate_store {P : Program} {ops : Array Oper} {rest : List Oper} {o : Oper} {a : Act} {Q : Exit → Act → World → Prop} {W : World} {ty : TypeId} {x y : Operand} (_ho : o.op = .store ty x y) (h : wpList P ops Q (o :: rest) a W) : wpList P ops Q (o :: rest) a W := h
theorem four_size (a b c d : Int) : (#[Value.int .u32 a, .int .u32 b, .int .u32 c, .int .u32 d] : Array Value).size = 4 := rfl
theorem four_all (a b c d : Int) : (#[Value.int .u32 a, .int .u32 b, .int .u32 c, .int .u32 d] : Array Value).all (·.oneCell') = true := by simp [Value.oneCell']
theorem four_info0 : (Try.prog.info? 44).map (·.size) = some 4 := by kernel_rfl
theorem four_info (a b c d : Int) : (Try.prog.info? 44).map (·.size) = some (#[Value.int .u32 a, .int .u32 b, .int .u32 c, .int .u32 d] : Array Value).size := four_info0
def cells4 (p q r s : Int) : List Value := [.int .u32 p, .int .u32 q, .int .u32 r, .int .u32 s]
/-- a block of four numbers -/
def Four (w : World) (g : Nat) (p q r s : Int) : Prop := w.heap[g]? = some (.cells #[.int .u32 p, .int .u32 q, .int .u32 r, .int .u32 s] 44 (0, 0))
def dP (p b : Int) : Int := (p + b) % 4294967296 * 16777619 % 4294967296
def dQ (p q b : Int) : Int := (q + (p + b) % 4294967296 * 16777619) % 4294967296 * 2654435761 % 4294967296
def dR (p q r b : Int) : Int := (Go.bits .xor .u32 r (dQ p q b) + 374761393) % 4294967296
def dS (p q r s b : Int) : Int := (s + 9 * dR p q r b + b) % 4294967296
theorem dS_eq (p q r s b : Int) : (s + 9 * dR p q r b + b) % 4294967296 = dS p q r s b := rfl
theorem cells4_src {w : World} {g : Nat} {p q r s : Int} (h : w.heap[g]? = some (.cells (cells4 p q r s).toArray 44 (0, 0))) (j : Nat) (v : Value) (hv : (cells4 p q r s)[j]? = some v) : w.cell? ((⟨g, 0, none⟩ : Addr).add j) = some v := by
  rw [add_plain, cell_of_row w g j _ _ _ h]
  simpa using hv
theorem cells4_one {p q r s : Int} : ∀ v ∈ cells4 p q r s, v.oneCell' = true := by simp [cells4, Value.oneCell']
set_option maxHeartbeats 400000 in
set_option maxRecDepth 100000 in
theorem take_any (g B : Nat) (p q r s b : Int) (w0 w : World) (hg : Four w g p q r s) (hB : Below B w0 w) (hBg : B ≤ g) :
    Calls Try.prog 17 #[.int .u32 b, .pointer (some ⟨g, 0, none⟩)] w fun e w' => e = .returned (.tuple #[]) ∧ Four w' g (dQ p q b) (dR p q r b) (dS p q r s b) (dP p b) ∧ Below B w0 w' := by
  have c0 : w.cell? ⟨g, 0, none⟩ = some (.int .u32 p) := by have : _ = _ := hg; simp [World.cell?, this]
  have c1 : w.cell? ⟨g, 1, none⟩ = some (.int .u32 q) := by have : _ = _ := hg; simp [World.cell?, this]
  have c2 : w.cell? ⟨g, 2, none⟩ = some (.int .u32 r) := by have : _ = _ := hg; simp [World.cell?, this]
  have c3 : w.cell? ⟨g, 3, none⟩ = some (.int .u32 s) := by have : _ = _ := hg; simp [World.cell?, this]
  have hlt : g < w.heap.size := lt_of_block hg
  go_enter Try.func17, Try.ntmps17
  go_wp2
  go_quiet (fail)
  go_wp2_with (first | ((with_reducible refine gate_store (ty := 44) (x := .tmp 7) (y := .tmp 38) rfl ?_); refine wpList_store_row rfl 44 (.tmp 7) (.tmp 38) rfl w.heap.size _ rfl rfl 44 #[.int .u32 0, .int .u32 0, .int .u32 0, .int .u32 0] ?hg ?hi ?ho ?h1 ?_))
  case hg => exact heap_alloc_new _ _
  case hi => exact four_info _ _ _ _
  case ho => exact (four_size _ _ _ _).symm
  case h1 => exact four_all _ _ _ _
  generalize hW : World.setRow _ _ _ = w5
  have f1 : w5.heap[g]? = some (.cells (cells4 p q r s).toArray 44 (0, 0)) := by
    rw [← hW, setRow_other _ _ _ _ (by omega)]
    exact (Below.heap_alloc _ _ _ hlt).trans hg
  have f2 : w5.heap[w.heap.size]? = some (.cells (cells4 (dQ p q b) (dR p q r b) (dS p q r s b) (dP p b)).toArray 44 (0, 0)) := by
    rw [← hW]
    exact setRow_heap _ _ _ _ _ _ (heap_alloc_new (w.drewN nq) _)
  have f3 : Below B w0 w5 := by
    rw [← hW]
    exact below_setRow ((pw_below_drewN hB _).alloc (by show B ≤ w.heap.size; omega) _) (by omega) _
  clear hW c0 c1 c2 c3
  have hsrc := Lib.hid (cells4_src f2)
  have f1' := Lib.hid f1
  clear f1 f2
  go_region_law (refine step_copy_splice rfl (.tmp 39) (.tmp 40) 45 45 rfl 43 Try.underlying45 (by kernel_rfl) _ _ 4 4 4 4 rfl rfl g 0 (cells4 p q r s) 44 f1'.out (cells4 (dQ p q b) (dR p q r b) (dS p q r s b) (dP p b)) rfl (fun _ => ⟨rfl, _, rfl, hsrc.out⟩) (by simp [cells4]) cells4_one B w0 f3.drew hBg ?_; intro w6 hg6 hb6)
  go_end0
  exact ⟨rfl, hg6.out, hb6⟩

def dStep (n : Int × Int × Int × Int) (b : Int) : Int × Int × Int × Int := (dQ n.1 n.2.1 b, dR n.1 n.2.1 n.2.2.1 b, dS n.1 n.2.1 n.2.2.1 n.2.2.2 b, dP n.1 b)
def FourT (w : World) (g : Nat) (n : Int × Int × Int × Int) : Prop := Four w g n.1 n.2.1 n.2.2.1 n.2.2.2
theorem take_step (g B : Nat) (n : Int × Int × Int × Int) (b : Int) (w0 w : World) (hg : FourT w g n) (hB : Below B w0 w) (hBg : B ≤ g) :
    Calls Try.prog 17 #[.int .u32 b, .pointer (some ⟨g, 0, none⟩)] w fun e w' => e = .returned (.tuple #[]) ∧ FourT w' g (dStep n b) ∧ Below B w0 w' := take_any g B _ _ _ _ b w0 w hg hB hBg
theorem take_step' (g B : Nat) (n : Int × Int × Int × Int) (b b' : Int) (e : b' = b) (w0 w : World) (hg : FourT w g n) (hB : Below B w0 w) (hBg : B ≤ g) :
    Calls Try.prog 17 #[.int .u32 b', .pointer (some ⟨g, 0, none⟩)] w fun e w' => e = .returned (.tuple #[]) ∧ FourT w' g (dStep n b) ∧ Below B w0 w' := by subst e; exact take_step g B n b' w0 w hg hB hBg
theorem and255 {x : Int} (h0 : 0 ≤ x) (h1 : x < 4294967296) : Go.bits .and .u32 x 255 = x % 256 := by
  refine bits_mask .u32 32 (by decide) (fun n a b => ?_) 8 (by decide) x h0 (by omega)
  rw [IntKind.wrap_u32]; omega
def run0 : Int × Int × Int × Int := (1732584193, 4023233417, 2562383102, 271733878)
def run1 (s : ByteArray) : Nat → Int × Int × Int × Int
  | 0 => run0
  | k + 1 => dStep (run1 s k) (bt s k)
def run2 (n : Int × Int × Int × Int) (z : Int) : Nat → Int × Int × Int × Int
  | 0 => n
  | k + 1 => dStep (run2 n z k) (z / (256 : Int) ^ k % 256)
def run3 (n : Int × Int × Int × Int) : Nat → Int × Int × Int × Int
  | 0 => n
  | k + 1 => dStep (run3 n k) 0
def hexd (x : Int) (m : Nat) : Int := bt (⟨#[48, 49, 50, 51, 52, 53, 54, 55, 56, 57, 97, 98, 99, 100, 101, 102]⟩ : ByteArray) (Go.bits .and .u32 (x / 2 ^ (28 - 4 * m)) 15)
theorem and15 {x : Int} (h0 : 0 ≤ x) (h1 : x < 4294967296) : Go.bits .and .u32 x 15 = x % 16 := by
  refine bits_mask .u32 32 (by decide) (fun n a b => ?_) 4 (by decide) x h0 (by omega)
  rw [IntKind.wrap_u32]; omega
theorem hexd_at {x : Int} (h0 : 0 ≤ x) (h1 : x < 4294967296) (m : Nat) : 0 ≤ Go.bits .and .u32 (x / 2 ^ (28 - 4 * m)) 15 ∧ Go.bits .and .u32 (x / 2 ^ (28 - 4 * m)) 15 < 16 := by
  have hp : 0 < (2 : Int) ^ (28 - 4 * m) := Int.pow_pos (by omega)
  have hq0 : 0 ≤ x / ((2 : Int) ^ (28 - 4 * m)) := Int.ediv_nonneg h0 (by omega)
  have hq1 : x / ((2 : Int) ^ (28 - 4 * m)) ≤ x := Int.ediv_le_self _ h0
  rw [and15 hq0 (by omega)]
  omega
def hex8 (x : Int) : Nat → List Int
  | 0 => []
  | m + 1 => hex8 x m ++ [hexd x m]
def comp (n : Int × Int × Int × Int) : Nat → Int
  | 0 => n.1
  | 1 => n.2.1
  | 2 => n.2.2.1
  | _ => n.2.2.2
def outL (n : Int × Int × Int × Int) : Nat → List Int
  | 0 => []
  | j + 1 => outL n j ++ hex8 (comp n j) 8
theorem hex8_len (x : Int) : ∀ m, (hex8 x m).length = m := by
  intro m
  induction m with
  | zero => rfl
  | succ m ih => rw [hex8, List.length_append, ih]; rfl
theorem outL_len (n : Int × Int × Int × Int) : ∀ j, (outL n j).length = 8 * j := by
  intro j
  induction j with
  | zero => rfl
  | succ j ih => rw [outL, List.length_append, ih, hex8_len]; omega
theorem len_at (n : Int × Int × Int × Int) (x : Int) (j m : Nat) (hj : j ≤ 4) (hm : m ≤ 8) : (outL n j ++ hex8 x m).length ≤ 40 := by
  rw [List.length_append, outL_len, hex8_len]; omega
def InR (n : Int × Int × Int × Int) : Prop := ∀ i, 0 ≤ comp n i ∧ comp n i < 4294967296
theorem step_InR (n : Int × Int × Int × Int) (b : Int) : InR (dStep n b) := by
  intro i
  match i with
  | 0 => show 0 ≤ dQ _ _ _ ∧ dQ _ _ _ < _; unfold dQ; omega
  | 1 => show 0 ≤ dR _ _ _ _ ∧ dR _ _ _ _ < _; unfold dR; omega
  | 2 => show 0 ≤ dS _ _ _ _ _ ∧ dS _ _ _ _ _ < _; unfold dS; omega
  | n + 3 => show 0 ≤ dP _ _ ∧ dP _ _ < _; unfold dP; omega
def digestS (s : ByteArray) : ByteArray := strOfNums (outL (run3 (run2 (run1 s s.size) s.size 4) 16) 4)
theorem gate_load {P : Program} {ops : Array Oper} {rest : List Oper} {o : Oper} {a : Act} {Q : Exit → Act → World → Prop} {W : World} {ty : TypeId} {x : Operand} (_ho : o.op = .load ty x) (h : wpList P ops Q (o :: rest) a W) : wpList P ops Q (o :: rest) a W := h
set_option maxHeartbeats 4000000 in
set_option maxRecDepth 100000 in
theorem digest_any (s : ByteArray) (w : World) (hs : s.size ≤ maxLen) :
    Calls Try.prog 10 #[.string s] w fun e w' => e = .returned (.string (digestS s)) ∧ Below w.heap.size w w' := by
  unfold maxLen at hs
  have hmf : ∀ (fn : Fn) (first cap : Array Value) (w : World), (Instr.makeFunc fn first cap).run Try.prog w = .ok (.func fn first cap) w := fun _ _ _ _ => rfl
  go_enter Try.func10, Try.ntmps10
  go_wp2_with (first | ((with_reducible refine gate_store (ty := 44) (x := .tmp 3) (y := .tmp 11) rfl ?_); refine wpList_store_row rfl 44 (.tmp 3) (.tmp 11) rfl w.heap.size _ rfl rfl 44 #[.int .u32 0, .int .u32 0, .int .u32 0, .int .u32 0] (heap_alloc_new w _) four_info0 rfl (four_all _ _ _ _) ?_))
  generalize hW : World.setRow _ _ _ = w1
  have f1 : FourT w1 w.heap.size run0 := by
    rw [← hW]
    exact setRow_heap _ _ _ _ _ _ (heap_alloc_new w _)
  have f3 : Below w.heap.size w w1 := by
    rw [← hW]
    exact below_setRow ((Below.refl _ _).alloc (Nat.le_refl _) _) (Nat.le_refl _) _
  clear hW
  have f1' := Lib.hid f1
  clear f1
  go_loopw [5] (fun i wr => ∃ k : Nat, k ≤ s.size ∧ i = .int .i64 k ∧ Hid (FourT wr w.heap.size (run1 s k)) ∧ Hid (Below w.heap.size w wr)) (fun i _ => s.size - (intOf i).toNat)
  case atStart => exact ⟨0, Nat.zero_le _, rfl, f1', f3⟩
  case round =>
    clear f1' f3
    obtain ⟨k, hk, rfl, hf, hb⟩ := hrel
    by_cases hlt : k < s.size
    · have hx := bt_at s k
      go_wp2_with fail
      refine (take_step' _ _ (run1 s k) (bt s k) _ ?e w wr hf hb.out (Nat.le_refl _)).mono ?_
      case e =>
        have hx1 := hx (by simpa using hlt)
        have hx2 := bt_range s k
        rw [← hx1] at hx2 ⊢
        simp only [Int.toNat_natCast] at hx2 ⊢
        omega
      rintro e w2 ⟨rfl, hf2, hb2⟩
      have hf2' := Lib.hid hf2
      have hb2' := Lib.hid hb2
      clear hf2 hb2 hx
      go_wp2_with fail
      go_roundw
      case rel => exact ⟨k + 1, by omega, by go_num, hf2', hb2'⟩
      case measure => simp [intOf]; omega
    · obtain rfl : k = s.size := by omega
      have hf' := Lib.hid hf
      have hb' := Lib.hid hb
      clear hf hb
      go_wp2_with fail
      go_loopw [25] (fun i wr => ∃ k : Nat, k ≤ 4 ∧ i = .int .i64 k ∧ Hid (FourT wr w.heap.size (run2 (run1 s s.size) s.size k)) ∧ Hid (Below w.heap.size w wr)) (fun i _ => 4 - (intOf i).toNat)
      case atStart => exact ⟨0, Nat.zero_le _, rfl, hf'.out, hb'.out⟩
      case round =>
        clear hf' hb'
        obtain ⟨k, hk, rfl, hf, hb⟩ := hrel
        have h4 : k = 0 ∨ k = 1 ∨ k = 2 ∨ k = 3 ∨ k = 4 := by omega
        rcases h4 with rfl | rfl | rfl | rfl | rfl
        case inr.inr.inr.inr =>
          rw [show ((4 : Nat) : Int) = 4 from rfl]
          have hf' := Lib.hid hf
          have hb' := Lib.hid hb
          clear hf hb
          go_wp2_with fail
          go_loopw [38] (fun i wr => ∃ k : Nat, k ≤ 16 ∧ i = .int .i64 k ∧ Hid (FourT wr w.heap.size (run3 (run2 (run1 s s.size) s.size 4) k)) ∧ Hid (Below w.heap.size w wr)) (fun i _ => 16 - (intOf i).toNat)
          case atStart => exact ⟨0, Nat.zero_le _, rfl, hf'.out, hb'.out⟩
          case round =>
            clear hf' hb'
            obtain ⟨k, hk, rfl, hf, hb⟩ := hrel
            by_cases h16 : k < 16
            · go_wp2_with fail
              refine (take_step' _ _ (run3 (run2 (run1 s s.size) s.size 4) k) 0 _ ?e w wr hf hb.out (Nat.le_refl _)).mono ?_
              case e => rfl
              rintro e w2 ⟨rfl, hf2, hb2⟩
              have hf2' := Lib.hid hf2
              have hb2' := Lib.hid hb2
              clear hf2 hb2
              go_wp2_with fail
              go_roundw
              case rel => exact ⟨k + 1, by omega, by go_num, hf2', hb2'⟩
              case measure => simp [intOf]; omega
            · obtain rfl : k = 16 := by omega
              obtain ⟨n, hn⟩ : ∃ n, n = run3 (run2 (run1 s s.size) s.size 4) 16 := ⟨_, rfl⟩
              rw [← hn] at hf
              have hrange : InR n := by rw [hn]; exact step_InR _ _
              have hn' := Lib.hid hn
              clear hn
              have hf' := Lib.hid hf
              have HB := Aside0.mk hb.out
              clear hf hb
              rw [show ((16 : Nat) : Int) = 16 from rfl]
              have HO := Aside0.mk (show Kd.R (Kd.int .u8) 5 wr w.heap.size (fun _ => True) (.slice none 0 0) [] from Kd.R_nil _ _ _ _ _)
              go_wp2_with (first | ((with_reducible refine gate_load (ty := 44) (x := .tmp 3) rfl ?_); refine wpList_load_row rfl 44 (.tmp 3) rfl w.heap.size rfl 44 _ (0, 0) _ hf'.out Try.underlying44 rfl four_info0 ?_))
              go_loopw [7, 44] (fun v i wr => ∃ j : Nat, j ≤ 4 ∧ i = .int .i64 j ∧ Aside0 (Kd.R (Kd.int .u8) 5 wr w.heap.size (fun _ => True) v (outL n j)) ∧ Aside0 (Below w.heap.size w wr)) (fun _ i _ => 4 - (intOf i).toNat)
              case atStart => exact ⟨0, Nat.zero_le _, rfl, HO, HB⟩
              case round =>
                clear HO HB hf'
                obtain ⟨j, hj, rfl, HO, HB⟩ := hrel
                have h4 : j = 0 ∨ j = 1 ∨ j = 2 ∨ j = 3 ∨ j = 4 := by omega
                rcases h4 with rfl | rfl | rfl | rfl | rfl
                case inr.inr.inr.inr =>
                  rw [show ((4 : Nat) : Int) = 4 from rfl]
                  have hcv := own_string (P := Try.prog) Try.underlying47 Try.underlying5 Try.underlying9 (Kd.own_of_R HO.out)
                  have hn2 := Lib.hid (show strOfNums (outL n 4) = digestS s by unfold digestS; rw [← hn'.out])
                  clear hrange
                  go_wp2_with fail
                  go_ret
                  exact ⟨congrArg (fun z => Ending.returned (Value.string z)) hn2.out, HB.out⟩
                case inl =>
                  have i0 : ∀ w, (Instr.index 44 (.agg #[.int .u32 n.1, .int .u32 n.2.1, .int .u32 n.2.2.1, .int .u32 n.2.2.2]) (.int .i64 0)).run Try.prog w = .ok (.int .u32 n.1) w := fun _ => by kernel_rfl
                  obtain ⟨x, hx⟩ : ∃ x, x = n.1 := ⟨_, rfl⟩
                  rw [show ((0 : Nat) : Int) = 0 from rfl]
                  go_wp2_with fail
                  rw [← hx]
                  have hx0 : 0 ≤ x := by rw [hx]; exact (hrange 0).1
                  have hx1 : x < 4294967296 := by rw [hx]; exact (hrange 0).2
                  have hx' := Lib.hid hx
                  have hlen := Lib.hid (fun (m : Nat) (hm : m ≤ 8) => len_at n x 0 m (by omega) hm)
                  clear hx i0
                  go_loopw [7, 10] (fun v i wr => ∃ m : Nat, m ≤ 8 ∧ i = .int .i64 (28 - 4 * m) ∧ Aside0 (Kd.R (Kd.int .u8) 5 wr w.heap.size (fun _ => True) v (outL n 0 ++ hex8 x m)) ∧ Aside0 (Below w.heap.size w wr)) (fun _ i _ => (intOf i + 4).toNat)
                  case atStart => exact ⟨0, Nat.zero_le _, rfl, ⟨by simpa [hex8] using HO.out⟩, HB⟩
                  case round =>
                    clear HO HB
                    obtain ⟨m, hm, rfl, HO, HB⟩ := hrel
                    by_cases hm8 : m < 8
                    · have hxd := bt_at (⟨#[48, 49, 50, 51, 52, 53, 54, 55, 56, 57, 97, 98, 99, 100, 101, 102]⟩ : ByteArray) (Go.bits .and .u32 (x / 2 ^ (28 - 4 * m)) 15)
                      have px := hexd_at hx0 hx1 m
                      obtain ⟨p17, q17⟩ := px
                      replace p17 := eq_true p17
                      replace q17 := eq_true q17
                      go_wp2_with (first | ((with_reducible refine gate_builtin (b := .append) (xs := #[.tmp 51, .tmp 57]) rfl ?_); at_builtin; (refine Kd.R_append (Kd.int .u8) (w0 := w) w.heap.size rfl (.tmp 51) (.tmp 57) 47 5 (.int .u8 0) 1 rfl Try.underlying47 info5 rfl (by decide) (by omega) u7 (outL n 0 ++ hex8 x m) (hexd x m) [.int .u8 (hexd x m)] (fun _ => True) (fun _ => False) rfl rfl ?aP (fun _ hk => hk.elim) ?aF ?aO ?aB ?aS ?aL ?_; (case aP => exact rfl); (case aB => exact (by repeat (first | (with_reducible first | exact HB.out | apply below_alloc | apply pw_below_drewN | apply below_drew1) | exact HB.out))); (case aF => exact (fun _ _ => trivial)); (case aO => exact (by (with_reducible repeat (first | apply Kd.R_alloc | apply Kd.R_drewN | apply Kd.R_drew)); exact HO.out)); (case aS => exact (below_size (by repeat (first | (with_reducible first | exact HB.out | apply below_alloc | apply pw_below_drewN | apply below_drew1) | exact HB.out)))); (case aL => have := hlen.out m hm; omega); intro v103 w19 ho hb hg hat; have n0_ := Aside0.mk (hb); have n1_ := Aside0.mk (ho); clear HB; clear HO; have HB := n0_; have HO := n1_; clear n0_ n1_; clear ho hb hg hat)))
                      go_roundw
                      case rel => exact ⟨m + 1, by omega, by go_num, ⟨by rw [List.append_assoc] at *; exact HO.out⟩, HB⟩
                      case measure => simp [intOf]; omega
                    · obtain rfl : m = 8 := by omega
                      have hx3 := hx'.out
                      clear hx' hlen hx0 hx1
                      subst hx3
                      go_wp2_with fail
                      go_roundw
                      case rel => exact ⟨1, by omega, rfl, HO, HB⟩
                      case measure => simp [intOf]
                case inr.inl =>
                  have i0 : ∀ w, (Instr.index 44 (.agg #[.int .u32 n.1, .int .u32 n.2.1, .int .u32 n.2.2.1, .int .u32 n.2.2.2]) (.int .i64 1)).run Try.prog w = .ok (.int .u32 n.2.1) w := fun _ => by kernel_rfl
                  obtain ⟨x, hx⟩ : ∃ x, x = n.2.1 := ⟨_, rfl⟩
                  rw [show ((1 : Nat) : Int) = 1 from rfl]
                  go_wp2_with fail
                  rw [← hx]
                  have hx0 : 0 ≤ x := by rw [hx]; exact (hrange 1).1
                  have hx1 : x < 4294967296 := by rw [hx]; exact (hrange 1).2
                  have hx' := Lib.hid hx
                  have hlen := Lib.hid (fun (m : Nat) (hm : m ≤ 8) => len_at n x 1 m (by omega) hm)
                  clear hx i0
                  go_loopw [7, 10] (fun v i wr => ∃ m : Nat, m ≤ 8 ∧ i = .int .i64 (28 - 4 * m) ∧ Aside0 (Kd.R (Kd.int .u8) 5 wr w.heap.size (fun _ => True) v (outL n 1 ++ hex8 x m)) ∧ Aside0 (Below w.heap.size w wr)) (fun _ i _ => (intOf i + 4).toNat)
                  case atStart => exact ⟨0, Nat.zero_le _, rfl, ⟨by simpa [hex8] using HO.out⟩, HB⟩
                  case round =>
                    clear HO HB
                    obtain ⟨m, hm, rfl, HO, HB⟩ := hrel
                    by_cases hm8 : m < 8
                    · have hxd := bt_at (⟨#[48, 49, 50, 51, 52, 53, 54, 55, 56, 57, 97, 98, 99, 100, 101, 102]⟩ : ByteArray) (Go.bits .and .u32 (x / 2 ^ (28 - 4 * m)) 15)
                      have px := hexd_at hx0 hx1 m
                      obtain ⟨p17, q17⟩ := px
                      replace p17 := eq_true p17
                      replace q17 := eq_true q17
                      go_wp2_with (first | ((with_reducible refine gate_builtin (b := .append) (xs := #[.tmp 51, .tmp 57]) rfl ?_); at_builtin; (refine Kd.R_append (Kd.int .u8) (w0 := w) w.heap.size rfl (.tmp 51) (.tmp 57) 47 5 (.int .u8 0) 1 rfl Try.underlying47 info5 rfl (by decide) (by omega) u7 (outL n 1 ++ hex8 x m) (hexd x m) [.int .u8 (hexd x m)] (fun _ => True) (fun _ => False) rfl rfl ?aP (fun _ hk => hk.elim) ?aF ?aO ?aB ?aS ?aL ?_; (case aP => exact rfl); (case aB => exact (by repeat (first | (with_reducible first | exact HB.out | apply below_alloc | apply pw_below_drewN | apply below_drew1) | exact HB.out))); (case aF => exact (fun _ _ => trivial)); (case aO => exact (by (with_reducible repeat (first | apply Kd.R_alloc | apply Kd.R_drewN | apply Kd.R_drew)); exact HO.out)); (case aS => exact (below_size (by repeat (first | (with_reducible first | exact HB.out | apply below_alloc | apply pw_below_drewN | apply below_drew1) | exact HB.out)))); (case aL => have := hlen.out m hm; omega); intro v103 w19 ho hb hg hat; have n0_ := Aside0.mk (hb); have n1_ := Aside0.mk (ho); clear HB; clear HO; have HB := n0_; have HO := n1_; clear n0_ n1_; clear ho hb hg hat)))
                      go_roundw
                      case rel => exact ⟨m + 1, by omega, by go_num, ⟨by rw [List.append_assoc] at *; exact HO.out⟩, HB⟩
                      case measure => simp [intOf]; omega
                    · obtain rfl : m = 8 := by omega
                      have hx3 := hx'.out
                      clear hx' hlen hx0 hx1
                      subst hx3
                      go_wp2_with fail
                      go_roundw
                      case rel => exact ⟨2, by omega, rfl, HO, HB⟩
                      case measure => simp [intOf]
                case inr.inr.inl =>
                  have i0 : ∀ w, (Instr.index 44 (.agg #[.int .u32 n.1, .int .u32 n.2.1, .int .u32 n.2.2.1, .int .u32 n.2.2.2]) (.int .i64 2)).run Try.prog w = .ok (.int .u32 n.2.2.1) w := fun _ => by kernel_rfl
                  obtain ⟨x, hx⟩ : ∃ x, x = n.2.2.1 := ⟨_, rfl⟩
                  rw [show ((2 : Nat) : Int) = 2 from rfl]
                  go_wp2_with fail
                  rw [← hx]
                  have hx0 : 0 ≤ x := by rw [hx]; exact (hrange 2).1
                  have hx1 : x < 4294967296 := by rw [hx]; exact (hrange 2).2
                  have hx' := Lib.hid hx
                  have hlen := Lib.hid (fun (m : Nat) (hm : m ≤ 8) => len_at n x 2 m (by omega) hm)
                  clear hx i0
                  go_loopw [7, 10] (fun v i wr => ∃ m : Nat, m ≤ 8 ∧ i = .int .i64 (28 - 4 * m) ∧ Aside0 (Kd.R (Kd.int .u8) 5 wr w.heap.size (fun _ => True) v (outL n 2 ++ hex8 x m)) ∧ Aside0 (Below w.heap.size w wr)) (fun _ i _ => (intOf i + 4).toNat)
                  case atStart => exact ⟨0, Nat.zero_le _, rfl, ⟨by simpa [hex8] using HO.out⟩, HB⟩
                  case round =>
                    clear HO HB
                    obtain ⟨m, hm, rfl, HO, HB⟩ := hrel
                    by_cases hm8 : m < 8
                    · have hxd := bt_at (⟨#[48, 49, 50, 51, 52, 53, 54, 55, 56, 57, 97, 98, 99, 100, 101, 102]⟩ : ByteArray) (Go.bits .and .u32 (x / 2 ^ (28 - 4 * m)) 15)
                      have px := hexd_at hx0 hx1 m
                      obtain ⟨p17, q17⟩ := px
                      replace p17 := eq_true p17
                      replace q17 := eq_true q17
                      go_wp2_with (first | ((with_reducible refine gate_builtin (b := .append) (xs := #[.tmp 51, .tmp 57]) rfl ?_); at_builtin; (refine Kd.R_append (Kd.int .u8) (w0 := w) w.heap.size rfl (.tmp 51) (.tmp 57) 47 5 (.int .u8 0) 1 rfl Try.underlying47 info5 rfl (by decide) (by omega) u7 (outL n 2 ++ hex8 x m) (hexd x m) [.int .u8 (hexd x m)] (fun _ => True) (fun _ => False) rfl rfl ?aP (fun _ hk => hk.elim) ?aF ?aO ?aB ?aS ?aL ?_; (case aP => exact rfl); (case aB => exact (by repeat (first | (with_reducible first | exact HB.out | apply below_alloc | apply pw_below_drewN | apply below_drew1) | exact HB.out))); (case aF => exact (fun _ _ => trivial)); (case aO => exact (by (with_reducible repeat (first | apply Kd.R_alloc | apply Kd.R_drewN | apply Kd.R_drew)); exact HO.out)); (case aS => exact (below_size (by repeat (first | (with_reducible first | exact HB.out | apply below_alloc | apply pw_below_drewN | apply below_drew1) | exact HB.out)))); (case aL => have := hlen.out m hm; omega); intro v103 w19 ho hb hg hat; have n0_ := Aside0.mk (hb); have n1_ := Aside0.mk (ho); clear HB; clear HO; have HB := n0_; have HO := n1_; clear n0_ n1_; clear ho hb hg hat)))
                      go_roundw
                      case rel => exact ⟨m + 1, by omega, by go_num, ⟨by rw [List.append_assoc] at *; exact HO.out⟩, HB⟩
                      case measure => simp [intOf]; omega
                    · obtain rfl : m = 8 := by omega
                      have hx3 := hx'.out
                      clear hx' hlen hx0 hx1
                      subst hx3
                      go_wp2_with fail
                      go_roundw
                      case rel => exact ⟨3, by omega, rfl, HO, HB⟩
                      case measure => simp [intOf]
                case inr.inr.inr.inl =>
                  have i0 : ∀ w, (Instr.index 44 (.agg #[.int .u32 n.1, .int .u32 n.2.1, .int .u32 n.2.2.1, .int .u32 n.2.2.2]) (.int .i64 3)).run Try.prog w = .ok (.int .u32 n.2.2.2) w := fun _ => by kernel_rfl
                  obtain ⟨x, hx⟩ : ∃ x, x = n.2.2.2 := ⟨_, rfl⟩
                  rw [show ((3 : Nat) : Int) = 3 from rfl]
                  go_wp2_with fail
                  rw [← hx]
                  have hx0 : 0 ≤ x := by rw [hx]; exact (hrange 3).1
                  have hx1 : x < 4294967296 := by rw [hx]; exact (hrange 3).2
                  have hx' := Lib.hid hx
                  have hlen := Lib.hid (fun (m : Nat) (hm : m ≤ 8) => len_at n x 3 m (by omega) hm)
                  clear hx i0
                  go_loopw [7, 10] (fun v i wr => ∃ m : Nat, m ≤ 8 ∧ i = .int .i64 (28 - 4 * m) ∧ Aside0 (Kd.R (Kd.int .u8) 5 wr w.heap.size (fun _ => True) v (outL n 3 ++ hex8 x m)) ∧ Aside0 (Below w.heap.size w wr)) (fun _ i _ => (intOf i + 4).toNat)
                  case atStart => exact ⟨0, Nat.zero_le _, rfl, ⟨by simpa [hex8] using HO.out⟩, HB⟩
                  case round =>
                    clear HO HB
                    obtain ⟨m, hm, rfl, HO, HB⟩ := hrel
                    by_cases hm8 : m < 8
                    · have hxd := bt_at (⟨#[48, 49, 50, 51, 52, 53, 54, 55, 56, 57, 97, 98, 99, 100, 101, 102]⟩ : ByteArray) (Go.bits .and .u32 (x / 2 ^ (28 - 4 * m)) 15)
                      have px := hexd_at hx0 hx1 m
                      obtain ⟨p17, q17⟩ := px
                      replace p17 := eq_true p17
                      replace q17 := eq_true q17
                      go_wp2_with (first | ((with_reducible refine gate_builtin (b := .append) (xs := #[.tmp 51, .tmp 57]) rfl ?_); at_builtin; (refine Kd.R_append (Kd.int .u8) (w0 := w) w.heap.size rfl (.tmp 51) (.tmp 57) 47 5 (.int .u8 0) 1 rfl Try.underlying47 info5 rfl (by decide) (by omega) u7 (outL n 3 ++ hex8 x m) (hexd x m) [.int .u8 (hexd x m)] (fun _ => True) (fun _ => False) rfl rfl ?aP (fun _ hk => hk.elim) ?aF ?aO ?aB ?aS ?aL ?_; (case aP => exact rfl); (case aB => exact (by repeat (first | (with_reducible first | exact HB.out | apply below_alloc | apply pw_below_drewN | apply below_drew1) | exact HB.out))); (case aF => exact (fun _ _ => trivial)); (case aO => exact (by (with_reducible repeat (first | apply Kd.R_alloc | apply Kd.R_drewN | apply Kd.R_drew)); exact HO.out)); (case aS => exact (below_size (by repeat (first | (with_reducible first | exact HB.out | apply below_alloc | apply pw_below_drewN | apply below_drew1) | exact HB.out)))); (case aL => have := hlen.out m hm; omega); intro v103 w19 ho hb hg hat; have n0_ := Aside0.mk (hb); have n1_ := Aside0.mk (ho); clear HB; clear HO; have HB := n0_; have HO := n1_; clear n0_ n1_; clear ho hb hg hat)))
                      go_roundw
                      case rel => exact ⟨m + 1, by omega, by go_num, ⟨by rw [List.append_assoc] at *; exact HO.out⟩, HB⟩
                      case measure => simp [intOf]; omega
                    · obtain rfl : m = 8 := by omega
                      have hx3 := hx'.out
                      clear hx' hlen hx0 hx1
                      subst hx3
                      go_wp2_with fail
                      go_roundw
                      case rel => exact ⟨4, by omega, rfl, HO, HB⟩
                      case measure => simp [intOf]
        case inl =>
          go_wp2_with fail
          refine (take_step' _ _ (run2 (run1 s s.size) s.size 0) ((s.size : Int) / (256 : Int) ^ 0 % 256) _ ?e w wr hf hb.out (Nat.le_refl _)).mono ?_
          case e =>
            rw [and255 (by omega) (by omega)]
            show _ = (s.size : Int) / 1 % 256
            omega
          rintro e w2 ⟨rfl, hf2, hb2⟩
          have hf2' := Lib.hid hf2
          have hb2' := Lib.hid hb2
          clear hf2 hb2
          go_wp2_with fail
          go_roundw
          case rel => exact ⟨1, by omega, rfl, hf2', hb2'⟩
          case measure => simp [intOf]
        case inr.inl =>
          go_wp2_with fail
          refine (take_step' _ _ (run2 (run1 s s.size) s.size 1) ((s.size : Int) / (256 : Int) ^ 1 % 256) _ ?e w wr hf hb.out (Nat.le_refl _)).mono ?_
          case e =>
            rw [and255 (by omega) (by omega)]
            show _ = (s.size : Int) / 256 % 256
            omega
          rintro e w2 ⟨rfl, hf2, hb2⟩
          have hf2' := Lib.hid hf2
          have hb2' := Lib.hid hb2
          clear hf2 hb2
          go_wp2_with fail
          go_roundw
          case rel => exact ⟨2, by omega, rfl, hf2', hb2'⟩
          case measure => simp [intOf]
        case inr.inr.inl =>
          go_wp2_with fail
          refine (take_step' _ _ (run2 (run1 s s.size) s.size 2) ((s.size : Int) / (256 : Int) ^ 2 % 256) _ ?e w wr hf hb.out (Nat.le_refl _)).mono ?_
          case e =>
            rw [and255 (by omega) (by omega)]
            show _ = (s.size : Int) / 65536 % 256
            omega
          rintro e w2 ⟨rfl, hf2, hb2⟩
          have hf2' := Lib.hid hf2
          have hb2' := Lib.hid hb2
          clear hf2 hb2
          go_wp2_with fail
          go_roundw
          case rel => exact ⟨3, by omega, rfl, hf2', hb2'⟩
          case measure => simp [intOf]
        case inr.inr.inr.inl =>
          go_wp2_with fail
          refine (take_step' _ _ (run2 (run1 s s.size) s.size 3) ((s.size : Int) / (256 : Int) ^ 3 % 256) _ ?e w wr hf hb.out (Nat.le_refl _)).mono ?_
          case e =>
            rw [and255 (by omega) (by omega)]
            show _ = (s.size : Int) / 16777216 % 256
            omega
          rintro e w2 ⟨rfl, hf2, hb2⟩
          have hf2' := Lib.hid hf2
          have hb2' := Lib.hid hb2
          clear hf2 hb2
          go_wp2_with fail
          go_roundw
          case rel => exact ⟨4, by omega, rfl, hf2', hb2'⟩
          case measure => simp [intOf]
def asset_Digest.f (a0 : ByteArray) : Option ByteArray := if a0.size ≤ 9223372036854775807 then some (digestS a0) else none
theorem asset_Digest.calls (a0 : ByteArray) (r : ByteArray) (w : World) (h : asset_Digest.f a0 = some r) :
    Calls Try.prog 10 #[.string a0] w fun e w' => e = .returned (.string r) ∧ Below w.heap.size w w' := by
  unfold asset_Digest.f at h
  by_cases c : a0.size ≤ 9223372036854775807
  · rw [if_pos c] at h
    cases h
    exact digest_any a0 w (by unfold maxLen; omega)
  · rw [if_neg c] at h; cases h


/-! ### mastkeep2_awakeAsset: function 4 -/
def mastkeep2_awakeAsset.f : Option Bool := some true
theorem digestS_len (s : ByteArray) : (digestS s).toList.length = 32 := by
  rw [ByteArray.toList_eq]
  show ((outL _ 4).map (fun n => UInt8.ofNat n.toNat)).length = 32
  rw [List.length_map, outL_len]
theorem mastkeep2_awakeAsset.calls (r : Bool) (w : World) (h : mastkeep2_awakeAsset.f = some r) :
    Calls Try.prog 4 #[] w fun e w' => e = .returned (.bool r) ∧ Below w.heap.size w w' := by
  cases h
  have hd : (!((digestS ⟨#[]⟩).toList.isEmpty)) = true := by
    have h := digestS_len ⟨#[]⟩
    cases hc : (digestS ⟨#[]⟩).toList with
    | nil => rw [hc] at h; cases h
    | cons _ _ => rfl
  go_enter Try.func4, Try.ntmps4
  go_wp2_with fail
  refine (digest_any ⟨#[]⟩ w (by unfold maxLen; decide)).mono ?_
  rintro e w' ⟨rfl, hb⟩
  generalize digestS ⟨#[]⟩ = d at *
  go_wp2
  go_ret
  exact ⟨rfl, hb⟩

/-! ### asset_badByte: function 18 -/
def asset_badByte.f (a0 : Int) : Option (Bool) := if a0 < 32 then (if a0 = 9 then (some (a0 == 127)) else (if a0 = 10 then (some (a0 == 127)) else (some true))) else (some (a0 == 127))
set_option maxHeartbeats 8000000 in
set_option maxRecDepth 100000 in
theorem asset_badByte.calls (a0 : Int) (r : Bool) (w : World) (h : asset_badByte.f a0 = some r) :
    Calls Try.prog 18 #[.int .u8 a0] w fun e w' => e = .returned (.bool r) ∧ Drawn0 w w' := by
  have H : (if a0 < 32 then (if a0 = 9 then (some (a0 == 127)) else (if a0 = 10 then (some (a0 == 127)) else (some true))) else (some (a0 == 127))) = some r := h
  clear h
  by_cases c2 : a0 < 32
  · rw [if_pos c2] at H
    have c2b0 : decide (a0 < 32) = true := decide_eq_true c2
    clear c2
    by_cases c3 : a0 = 9
    · rw [if_pos c3] at H
      have c3b0 : (a0 == 9) = true := beq_iff_eq.mpr c3
      have c3b1 : (a0 != 9) = false := bne_eq_false_iff_eq.mpr c3
      clear c3
      obtain rfl := Option.some.inj H
      go_enter Try.func18, Try.ntmps18
      go_wp2
      go_ret
      exact ⟨by first | rfl | (simp; done) | (simp [*]; done), by repeat (first | exact Drawn0.refl _ | apply Drawn0.step)⟩
    · rw [if_neg c3] at H
      have c3b0 : (a0 == 9) = false := beq_eq_false_iff_ne.mpr c3
      have c3b1 : (a0 != 9) = true := bne_iff_ne.mpr c3
      by_cases c4 : a0 = 10
      · rw [if_pos c4] at H
        have c4b0 : (a0 == 10) = true := beq_iff_eq.mpr c4
        have c4b1 : (a0 != 10) = false := bne_eq_false_iff_eq.mpr c4
        clear c4
        obtain rfl := Option.some.inj H
        go_enter Try.func18, Try.ntmps18
        go_wp2
        go_ret
        exact ⟨by first | rfl | (simp; done) | (simp [*]; done), by repeat (first | exact Drawn0.refl _ | apply Drawn0.step)⟩
      · rw [if_neg c4] at H
        have c4b0 : (a0 == 10) = false := beq_eq_false_iff_ne.mpr c4
        have c4b1 : (a0 != 10) = true := bne_iff_ne.mpr c4
        obtain rfl := Option.some.inj H
        go_enter Try.func18, Try.ntmps18
        go_wp2
        go_ret
        exact ⟨by first | rfl | (simp; done) | (simp [*]; done), by repeat (first | exact Drawn0.refl _ | apply Drawn0.step)⟩
  · rw [if_neg c2] at H
    have c2b0 : decide (a0 < 32) = false := decide_eq_false c2
    clear c2
    obtain rfl := Option.some.inj H
    go_enter Try.func18, Try.ntmps18
    go_wp2
    go_ret
    exact ⟨by first | rfl | (simp; done) | (simp [*]; done), by repeat (first | exact Drawn0.refl _ | apply Drawn0.step)⟩

/-! ### asset_isBlank: function 19 -/
def asset_isBlank.f (a0 : Int) : Option (Bool) := if a0 = 32 then (some true) else (if a0 = 9 then (some true) else (some (a0 == 10)))
set_option maxHeartbeats 8000000 in
set_option maxRecDepth 100000 in
theorem asset_isBlank.calls (a0 : Int) (r : Bool) (w : World) (h : asset_isBlank.f a0 = some r) :
    Calls Try.prog 19 #[.int .u8 a0] w fun e w' => e = .returned (.bool r) ∧ Drawn0 w w' := by
  have H : (if a0 = 32 then (some true) else (if a0 = 9 then (some true) else (some (a0 == 10)))) = some r := h
  clear h
  by_cases c2 : a0 = 32
  · rw [if_pos c2] at H
    have c2b0 : (a0 == 32) = true := beq_iff_eq.mpr c2
    have c2b1 : (a0 != 32) = false := bne_eq_false_iff_eq.mpr c2
    clear c2
    obtain rfl := Option.some.inj H
    go_enter Try.func19, Try.ntmps19
    go_wp2
    go_ret
    exact ⟨by first | rfl | (simp; done) | (simp [*]; done), by repeat (first | exact Drawn0.refl _ | apply Drawn0.step)⟩
  · rw [if_neg c2] at H
    have c2b0 : (a0 == 32) = false := beq_eq_false_iff_ne.mpr c2
    have c2b1 : (a0 != 32) = true := bne_iff_ne.mpr c2
    by_cases c3 : a0 = 9
    · rw [if_pos c3] at H
      have c3b0 : (a0 == 9) = true := beq_iff_eq.mpr c3
      have c3b1 : (a0 != 9) = false := bne_eq_false_iff_eq.mpr c3
      clear c3
      obtain rfl := Option.some.inj H
      go_enter Try.func19, Try.ntmps19
      go_wp2
      go_ret
      exact ⟨by first | rfl | (simp; done) | (simp [*]; done), by repeat (first | exact Drawn0.refl _ | apply Drawn0.step)⟩
    · rw [if_neg c3] at H
      have c3b0 : (a0 == 9) = false := beq_eq_false_iff_ne.mpr c3
      have c3b1 : (a0 != 9) = true := bne_iff_ne.mpr c3
      obtain rfl := Option.some.inj H
      go_enter Try.func19, Try.ntmps19
      go_wp2
      go_ret
      exact ⟨by first | rfl | (simp; done) | (simp [*]; done), by repeat (first | exact Drawn0.refl _ | apply Drawn0.step)⟩

/-! ### stringslite_HasPrefix: function 39 -/
def stringslite_HasPrefix.f (a0 : ByteArray) (a1 : ByteArray) : Option (Bool) := if (a0.size : Int) ≥ (a1.size : Int) then (if 0 ≤ (a1.size : Int) then (if (a1.size : Int) ≤ (a0.size : Int) then (some ((a0.extract 0 ((a1.size : Int) : Int).toNat).toList == a1.toList)) else (none)) else (none)) else (some false)
set_option maxHeartbeats 8000000 in
set_option maxRecDepth 100000 in
theorem stringslite_HasPrefix.calls (a0 : ByteArray) (a1 : ByteArray) (r : Bool) (w : World) (h : stringslite_HasPrefix.f a0 a1 = some r) :
    Calls Try.prog 39 #[.string a0, .string a1] w fun e w' => e = .returned (.bool r) ∧ Drawn0 w w' := by
  have H : (if (a0.size : Int) ≥ (a1.size : Int) then (if 0 ≤ (a1.size : Int) then (if (a1.size : Int) ≤ (a0.size : Int) then (some ((a0.extract 0 ((a1.size : Int) : Int).toNat).toList == a1.toList)) else (none)) else (none)) else (some false)) = some r := h
  clear h
  by_cases c3 : (a0.size : Int) ≥ (a1.size : Int)
  · rw [if_pos c3] at H
    have c3b0 : decide ((a1.size : Int) ≤ (a0.size : Int)) = true := decide_eq_true c3
    have c3b1 : decide (a1.size ≤ a0.size) = true := decide_eq_true (Int.ofNat_le.mp c3)
    clear c3
    by_cases c4 : 0 ≤ (a1.size : Int)
    · rw [if_pos c4] at H
      have c4b0 := eq_true c4
      have c4b1 : decide (0 ≤ (a1.size : Int)) = true := decide_eq_true c4
      clear c4
      by_cases c5 : (a1.size : Int) ≤ (a0.size : Int)
      · rw [if_pos c5] at H
        have c5b0 := eq_true c5
        have c5b1 : decide ((a1.size : Int) ≤ (a0.size : Int)) = true := decide_eq_true c5
        clear c5
        obtain rfl := Option.some.inj H
        go_enter Try.func39, Try.ntmps39
        go_wp2
        go_ret
        exact ⟨by first | rfl | (simp; done) | (simp [*]; done), by repeat (first | exact Drawn0.refl _ | apply Drawn0.step)⟩
      · rw [if_neg c5] at H
        exact absurd H (by simp)
    · rw [if_neg c4] at H
      exact absurd H (by simp)
  · rw [if_neg c3] at H
    have c3b0 : decide ((a1.size : Int) ≤ (a0.size : Int)) = false := decide_eq_false c3
    have c3b1 : decide (a1.size ≤ a0.size) = false := decide_eq_false (fun h => c3 (Int.ofNat_le.mpr h))
    clear c3
    obtain rfl := Option.some.inj H
    go_enter Try.func39, Try.ntmps39
    go_wp2
    go_ret
    exact ⟨by first | rfl | (simp; done) | (simp [*]; done), by repeat (first | exact Drawn0.refl _ | apply Drawn0.step)⟩

/-! ### strings_HasPrefix: function 32 -/
def strings_HasPrefix.f (a0 : ByteArray) (a1 : ByteArray) : Option (Bool) := (stringslite_HasPrefix.f a0 a1).bind fun t101 => (some t101)
set_option maxHeartbeats 8000000 in
set_option maxRecDepth 100000 in
theorem strings_HasPrefix.calls (a0 : ByteArray) (a1 : ByteArray) (r : Bool) (w : World) (h : strings_HasPrefix.f a0 a1 = some r) :
    Calls Try.prog 32 #[.string a0, .string a1] w fun e w' => e = .returned (.bool r) ∧ Drawn0 w w' := by
  have H : ((stringslite_HasPrefix.f a0 a1).bind fun t101 => (some t101)) = some r := h
  clear h
  replace H := Option.bind_eq_some_iff.mp H
  obtain ⟨t101, A30, H⟩ := H
  replace H : (some t101) = some r := H
  have A3 := Aside0.mk A30
  clear A30
  obtain rfl := Option.some.inj H
  go_enter Try.func32, Try.ntmps32
  go_wp2_with (first | ((with_reducible refine gate_callee (f := 39) rfl ?_); refine goesL_ (some 7) rfl rfl Try.func39 (by kernel_rfl) rfl #[.string a0, .string a1] rfl (by (try simp only [List.map_toArray, List.map_cons, List.map_nil]); first | done | rfl | (simp only [List.length_drop, List.length_take]; rfl)) ?_; (with_reducible refine (stringslite_HasPrefix.calls a0 a1 t101 _ A3.out).mono ?_); rintro e w' ⟨rfl, ⟨nd, rfl⟩⟩; refine ⟨_, rfl, ?_⟩))
  go_ret
  exact ⟨by first | rfl | (simp; done) | (simp [*]; done), by repeat (first | exact Drawn0.refl _ | apply Drawn0.step)⟩

/-! ### strings_Index: function 33 -/
def strings_Index.f (a0 a1 : ByteArray) : Option Int := if a0.size < 4294967281 then some (Lib.index a0.data.toList a1.data.toList) else none
theorem strings_Index.calls (a0 a1 : ByteArray) (r : Int) (w : World) (h : strings_Index.f a0 a1 = some r) (hG : Gh.G w := by repeat' (first | with_reducible assumption | with_reducible apply Gh.G.drewN | with_reducible apply Gh.G.drew | with_reducible apply Gh.G.alloc | (with_reducible refine Gh.G.set ?_ (by assumption) (by assumption)) | exact Gh.G.aside (by assumption) (by assumption))) :
    Calls Try.prog 33 #[.string a0, .string a1] w fun e w' => e = .returned (.int .i64 r) ∧ Drawn0 w w' := by
  unfold strings_Index.f at h
  split at h
  case isFalse => cases h
  rename_i hs
  obtain ⟨m, hm⟩ := hG.c
  cases h
  refine (Shelf.Try.strings_Index a0 a1 m w hs hm).mono ?_
  rintro e w' ⟨rfl, rfl⟩
  exact ⟨rfl, Drawn0.refl _⟩

/-! ### stringslite_IndexByte: function 41 -/
def stringslite_IndexByte.f (a0 : ByteArray) (a1 : Int) : Option Int := some (Lib.indexByte a0.data.toList a1.toNat.toUInt8)
set_option maxHeartbeats 1000000 in
set_option maxRecDepth 100000 in
theorem stringslite_IndexByte.calls (a0 : ByteArray) (a1 : Int) (r : Int) (w : World) (h : stringslite_IndexByte.f a0 a1 = some r) :
    Calls Try.prog 41 #[.string a0, .int .u8 a1] w fun e w' => e = .returned (.int .i64 r) ∧ Drawn0 w w' := by
  simp only [stringslite_IndexByte.f, Option.some.injEq] at h
  subst h
  go_enter Try.func41, Try.ntmps41
  go_wp2
  rw [run_callFunc_extern Try.func48 (by kernel_rfl) (by kernel_rfl) (by kernel_rfl) (e := Extern.BytealgIndexByte.indexByte) (by kernel_rfl), Lib.run_indexByteString]
  simp only [Result.andThen]
  rw [Oper.upon_value]
  go_wp2
  go_ret
  exact ⟨rfl, Drawn0.refl _⟩


/-! ### strings_IndexByte: function 34 -/
def strings_IndexByte.f (a0 : ByteArray) (a1 : Int) : Option Int := some (Lib.indexByte a0.data.toList a1.toNat.toUInt8)
set_option maxHeartbeats 1000000 in
theorem strings_IndexByte.calls (a0 : ByteArray) (a1 : Int) (r : Int) (w : World) (h : strings_IndexByte.f a0 a1 = some r) :
    Calls Try.prog 34 #[.string a0, .int .u8 a1] w fun e w' => e = .returned (.int .i64 r) ∧ Drawn0 w w' := by
  simp only [strings_IndexByte.f, Option.some.injEq] at h
  subst h
  go_enter Try.func34, Try.ntmps34
  go_wp2_with (go_at_call 41; refine (stringslite_IndexByte.calls _ _ _ _ rfl).mono ?_; rintro e w' ⟨rfl, ⟨⟨n, rfl⟩⟩⟩)
  go_ret
  exact ⟨rfl, ⟨⟨n, rfl⟩⟩⟩

end Go.Proofs.Ytllpaepiiiedgaa.PAssetSame
