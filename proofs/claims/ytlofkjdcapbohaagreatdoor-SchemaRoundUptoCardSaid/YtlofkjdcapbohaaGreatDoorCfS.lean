/- For the law SchemaRound: SchemaValue, walked. No condition. -/
import Derived.Test.YtlofkjdcapbohaaGreatDoorCfQ
namespace Go.Proofs.YtlofkjdcapbohaaGreatDoor.PConfKeeps
open Go.RowKit Go.Proofs.YtlofkjdcapbohaaGreatDoorW.PrintWords Go.Proofs.YtlofkjdcapbohaaGreatDoorW.PrintLast Go.Proofs.YtlofkjdcapbohaaGreatDoorW.PrintMore
set_option linter.unusedVariables false
set_option linter.unusedSimpArgs false

theorem put_lit (t : S25) (P4 : Option Addr) (P4c : Nat) (P5 : Option Addr) (P5c : Nat) (key : ByteArray) (a : Int) (b : Bool) (n : Int) (s : ByteArray) (r : S25) (w : World) (ok0 : Nat → Prop) (ht : RdF w ok0 t P4 P4c P5 P5c) (h : cput t key ⟨a, b, n, s, [], []⟩ = some r) :
  Calls Tryz.prog 29 #[.agg #[.int .i64 t.f0, .bool t.f1, .int .i64 t.f2, .string t.f3, .slice P4 t.f4.length P4c, .slice P5 t.f5.length P5c], .string key, .agg #[.int .i64 a, .bool b, .int .i64 n, .string s, .slice none 0 0, .slice none 0 0]] w fun e w' => ∃ E4 E4c E5 E5c, e = .returned (.agg #[.int .i64 r.f0, .bool r.f1, .int .i64 r.f2, .string r.f3, .slice E4 r.f4.length E4c, .slice E5 r.f5.length E5c]) ∧ RdF w' (fun k => ok0 k ∨ w.heap.size ≤ k) r E4 E4c E5 E5c ∧ Below w.heap.size w w' :=
 put_calls t P4 P4c P5 P5c key ⟨a, b, n, s, [], []⟩ none 0 none 0 r w ok0 ht (RdF.nil _ _ _ _ _ _) h
theorem put_row (t : S25) (P4 : Option Addr) (P4c : Nat) (P5 : Option Addr) (P5c : Nat) (key : ByteArray) (xs : List S25) (A : Option Addr) (c : Nat) (r : S25) (w : World) (ok0 : Nat → Prop) (ht : RdF w ok0 t P4 P4c P5 P5c) (hx : Kd.F k25 w ok0 A xs.length xs) (hc : xs.length ≤ c) (h : cput t key (vL xs) = some r) :
  Calls Tryz.prog 29 #[.agg #[.int .i64 t.f0, .bool t.f1, .int .i64 t.f2, .string t.f3, .slice P4 t.f4.length P4c, .slice P5 t.f5.length P5c], .string key, .agg #[.int .i64 5, .bool false, .int .i64 0, .string ⟨#[]⟩, .slice A xs.length c, .slice none 0 0]] w fun e w' => ∃ E4 E4c E5 E5c, e = .returned (.agg #[.int .i64 r.f0, .bool r.f1, .int .i64 r.f2, .string r.f3, .slice E4 r.f4.length E4c, .slice E5 r.f5.length E5c]) ∧ RdF w' (fun k => ok0 k ∨ w.heap.size ≤ k) r E4 E4c E5 E5c ∧ Below w.heap.size w w' :=
 put_calls t P4 P4c P5 P5c key (vL xs) A c none 0 r w ok0 ht ⟨hx, hc, Kd.F_nil _ _ _, Nat.le_refl _⟩ h
theorem put_rowT (key : ByteArray) (xs : List S25) (A : Option Addr) (c : Nat) (r : S25) (w : World) (ok0 : Nat → Prop) (hx : Kd.F k25 w ok0 A xs.length xs) (hc : xs.length ≤ c) (h : cput vT key (vL xs) = some r) :
  Calls Tryz.prog 29 #[.agg #[.int .i64 6, .bool false, .int .i64 0, .string ⟨#[]⟩, .slice none 0 0, .slice none 0 0], .string key, .agg #[.int .i64 5, .bool false, .int .i64 0, .string ⟨#[]⟩, .slice A xs.length c, .slice none 0 0]] w fun e w' => ∃ E4 E4c E5 E5c, e = .returned (.agg #[.int .i64 r.f0, .bool r.f1, .int .i64 r.f2, .string r.f3, .slice E4 r.f4.length E4c, .slice E5 r.f5.length E5c]) ∧ RdF w' (fun k => ok0 k ∨ w.heap.size ≤ k) r E4 E4c E5 E5c ∧ Below w.heap.size w w' :=
 put_row vT none 0 none 0 key xs A c r w ok0 (RdF.nil _ _ _ _ _ _) hx hc h
theorem put_litT (key : ByteArray) (a : Int) (b : Bool) (n : Int) (s : ByteArray) (r : S25) (w : World) (ok0 : Nat → Prop) (h : cput vT key ⟨a, b, n, s, [], []⟩ = some r) :
  Calls Tryz.prog 29 #[.agg #[.int .i64 6, .bool false, .int .i64 0, .string ⟨#[]⟩, .slice none 0 0, .slice none 0 0], .string key, .agg #[.int .i64 a, .bool b, .int .i64 n, .string s, .slice none 0 0, .slice none 0 0]] w fun e w' => ∃ E4 E4c E5 E5c, e = .returned (.agg #[.int .i64 r.f0, .bool r.f1, .int .i64 r.f2, .string r.f3, .slice E4 r.f4.length E4c, .slice E5 r.f5.length E5c]) ∧ RdF w' (fun k => ok0 k ∨ w.heap.size ≤ k) r E4 E4c E5 E5c ∧ Below w.heap.size w w' :=
 put_lit vT none 0 none 0 key a b n s r w ok0 (RdF.nil _ _ _ _ _ _) h
theorem Bs.head_le {w W : World} {l : List (Nat × Array Value × Nat)} {g t : Nat} {cs : Array Value} (h : Bs w W ((g, cs, t) :: l)) : ∀ (i : Nat) (p : Nat × Array Value × Nat), ((g, cs, t) :: l)[i]? = some p → p.1 ≤ g := fun i p hp => by
 cases i with
 | zero => injection hp with hp; subst hp; exact Nat.le_refl _
 | succ i => exact Nat.le_of_lt (h.nd 0 (i + 1) _ p (by omega) rfl hp)
theorem vLmap (l : List ByteArray) (m : Nat) (h : m < l.length) : (l.take (m + 1)).map vS = (l.take m).map vS ++ [vS (rdOf ByteArray.empty l (m : Int))] := by
 rw [List.take_succ_eq_append_getElem h, List.map_append]
 unfold rdOf
 rw [Int.toNat_natCast, List.getD_eq_getElem?_getD, List.getElem?_eq_getElem h]; rfl
set_option maxHeartbeats 8000000 in
set_option maxRecDepth 100000 in
theorem SV_calls (k : Nat) (l : List S44) (A : Option Addr) (c : Nat) (st : Bool) (r : S25 × Int) (w : World) (hkn : KN w) (hl : Kd.C k44 w A l.length l) (hc : l.length ≤ c) (hs : ∀ x ∈ l, x.f0.size ≤ maxLen) (h : cSV k l st = some r) :
  Calls Tryz.prog 15 #[.agg #[.slice A l.length c, .bool st]] w fun e w' => ∃ E4 e4 E5 e5, e = .returned (.tuple #[.agg #[.int .i64 r.1.f0, .bool r.1.f1, .int .i64 r.1.f2, .string r.1.f3, .slice E4 r.1.f4.length e4, .slice E5 r.1.f5.length e5], .int .i64 r.2]) ∧ Rd w' r.1 E4 e4 E5 e5 ∧ Below w.heap.size w w' := by
 have hu44 := Tryz.underlying44
 have hu41 := Tryz.underlying41
 have hu25 := Tryz.underlying25
 have HKN := Aside0.mk hkn
 have HL := Aside0.mk hl
 have HSZ := Aside0.mk hs
 have HP := Aside0.mk (Bs.nil w)
 have HMX := Aside0.mk hl.2.1
 unfold cSV at h
 obtain ⟨e1, hcs, h1⟩ := Option.bind_eq_some_iff.1 h
 have HCS := Aside0.mk hcs
 have H := Aside0.mk h1
 clear hkn hl hs h h1 hcs
 go_enter Tryz.func15, Tryz.ntmps15
 go_upto_region 1 with (first | ((with_reducible refine gate_dst (N := 1) rfl ?_); refine box_event ?hg (N := 1) ?hd (cs := #[.slice A l.length c, .bool st]) (t := 41) ?hr ?_; (case hd => rfl); (case hg => rfl); (case hr => first | (go_simp; done) | (go_simp; rfl)); intro bs hg_ W1 hbox hb; have n0 := Aside0.mk (HP.out.new hg_ hbox hb); clear HP; have HP := n0; clear n0; clear hg_ hbox hb) | ((with_reducible refine gate_dst (N := 2) rfl ?_); refine box_event ?hg (N := 2) ?hd (cs := #[.int .i64 0, .bool false, .int .i64 0, .string ⟨#[]⟩, .slice none 0 0, .slice none 0 0]) (t := 25) ?hr ?_; (case hd => rfl); (case hg => rfl); (case hr => first | (go_simp; done) | (go_simp; rfl)); intro br hg_ W2 hbox hb; have n0 := Aside0.mk (HP.out.new hg_ hbox hb); clear HP; have HP := n0; clear n0; clear hg_ hbox hb))
 have ys0 : W2.cell? ⟨bs, 0, none⟩ = some (.slice A l.length c) := HP.out.cl 1 0 rfl rfl
 have ys1 : W2.cell? ⟨bs, 1, none⟩ = some (.bool st) := HP.out.cl 1 1 rfl rfl
 have H1 := H.out
 clear H
 by_cases c1 : e1 = 0
 case neg =>
  rw [if_neg c1] at H1
  injection H1 with H1
  subst H1
  have e1a : (e1 == 0) = false := beq_eq_false_iff_ne.2 c1
  have e1b : (e1 != 0) = true := bne_iff_ne.2 c1
  go_wp2_with ((go_at_call 28; refine (cs_calls k l A c st e1 _ (Kd.C_below HL.out HP.out.B) hc HSZ.out HCS.out).mono ?_; rintro e w5 ⟨rfl, hb⟩; have n0 := Aside0.mk (HP.out.below hb); clear HP; have HP := n0; clear n0; clear hb; have yr0 : w5.cell? ⟨br, 0, none⟩ = some (.int .i64 0) := HP.out.cl 0 0 rfl rfl; have yr1 : w5.cell? ⟨br, 1, none⟩ = some (.bool false) := HP.out.cl 0 1 rfl rfl; have yr2 : w5.cell? ⟨br, 2, none⟩ = some (.int .i64 0) := HP.out.cl 0 2 rfl rfl; have yr3 : w5.cell? ⟨br, 3, none⟩ = some (.string ⟨#[]⟩) := HP.out.cl 0 3 rfl rfl; have yr4 : w5.cell? ⟨br, 4, none⟩ = some (.slice none 0 0) := HP.out.cl 0 4 rfl rfl; have yr5 : w5.cell? ⟨br, 5, none⟩ = some (.slice none 0 0) := HP.out.cl 0 5 rfl rfl; have zr0 := HP.out.fz 0 0 rfl; have zr1 := HP.out.fz 0 1 rfl; have zr2 := HP.out.fz 0 2 rfl; have zr3 := HP.out.fz 0 3 rfl; have zr4 := HP.out.fz 0 4 rfl; have zr5 := HP.out.fz 0 5 rfl))
  refine bodyPost_ret (results_ct rfl _ _ br 25 #[.int .i64 0, .bool false, .int .i64 0, .string ⟨#[]⟩, .slice none 0 0, .slice none 0 0] (0, 0) _ rfl (put6 (HP.out.get 0 rfl) _ _ _ _ _ _) Tryz.underlying25 rfl (by kernel_rfl)) rfl ?_
  exact ⟨none, 0, none, 0, rfl, Rd.nil _ _ _ _ _, put6_below HP.out.B (HP.out.low 0 rfl) _ _ _ _ _ _⟩
 rw [if_pos c1] at H1
 have e1a : (e1 == 0) = true := beq_iff_eq.2 c1
 have e1b : (e1 != 0) = false := bne_eq_false_iff_eq.2 c1
 obtain ⟨ts0, hts, H1⟩ := Option.bind_eq_some_iff.1 H1
 have HTS := Aside0.mk hts
 have H := Aside0.mk H1
 clear hts H1
 have HL100 := Aside0.mk (show l.length ≤ 100 by have h_ := HCS.out; unfold cCS at h_; split at h_; (injection h_ with h_; omega); omega)
 go_upto_region 5 with (first | (go_at_call 28; refine (cs_calls k l A c st e1 _ (Kd.C_below HL.out HP.out.B) hc HSZ.out HCS.out).mono ?_; rintro e w5 ⟨rfl, hb⟩; have n0 := Aside0.mk (HP.out.below hb); clear HP; have HP := n0; clear n0; clear hb) | ((with_reducible refine gate_dst (N := 5) rfl ?_); refine box_event ?hg (N := 5) ?hd (cs := #[.int .i64 0, .bool false, .int .i64 0, .string ⟨#[]⟩, .slice none 0 0, .slice none 0 0]) (t := 25) ?hr ?_; (case hd => rfl); (case hg => rfl); (case hr => first | (go_simp; done) | (go_simp; rfl)); intro b5 hg_ W3 hbox hb; have n0 := Aside0.mk (HP.out.new hg_ hbox hb); clear HP; have HP := n0; clear n0; clear hg_ hbox hb; have yz0 : W3.cell? ⟨b5, 0, none⟩ = some (.int .i64 0) := HP.out.cl 0 0 rfl rfl; have yz1 : W3.cell? ⟨b5, 1, none⟩ = some (.bool false) := HP.out.cl 0 1 rfl rfl; have yz2 : W3.cell? ⟨b5, 2, none⟩ = some (.int .i64 0) := HP.out.cl 0 2 rfl rfl; have yz3 : W3.cell? ⟨b5, 3, none⟩ = some (.string ⟨#[]⟩) := HP.out.cl 0 3 rfl rfl; have yz4 : W3.cell? ⟨b5, 4, none⟩ = some (.slice none 0 0) := HP.out.cl 0 4 rfl rfl; have yz5 : W3.cell? ⟨b5, 5, none⟩ = some (.slice none 0 0) := HP.out.cl 0 5 rfl rfl; have zz0 := HP.out.fz 0 0 rfl; have zz1 := HP.out.fz 0 1 rfl; have zz2 := HP.out.fz 0 2 rfl; have zz3 := HP.out.fz 0 3 rfl; have zz4 := HP.out.fz 0 4 rfl; have zz5 := HP.out.fz 0 5 rfl))
 have n0 := Aside0.mk (HP.out.six 0 rfl (.int .i64 5) (.bool false) (.int .i64 0) (.string ⟨#[]⟩) (.slice none 0 0) (.slice none 0 0))
 clear HP
 have HP := n0
 clear n0
 clear ys0 ys1 yz0 zz0 yz1 zz1 yz2 zz2 yz3 zz3 yz4 zz4 yz5 zz5
 generalize ((((((W3.setCell ⟨b5, 0, none⟩ (.int .i64 5)).setCell ⟨b5, 1, none⟩ (.bool false)).setCell ⟨b5, 2, none⟩ (.int .i64 0)).setCell ⟨b5, 3, none⟩ (.string ⟨#[]⟩)).setCell ⟨b5, 4, none⟩ (.slice none 0 0)).setCell ⟨b5, 5, none⟩ (.slice none 0 0)) = W4 at HP ⊢
 have ys0 : W4.cell? ⟨bs, 0, none⟩ = some (.slice A l.length c) := HP.out.cl 2 0 rfl rfl
 have ys1 : W4.cell? ⟨bs, 1, none⟩ = some (.bool st) := HP.out.cl 2 1 rfl rfl
 have LBR := Aside0.mk (show br < b5 from HP.out.nd 0 1 _ _ (by omega) rfl rfl)
 have LB5 := Aside0.mk (HP.out.lt 0 rfl)
 have HN := Aside0.mk (Kd.N_nil k25 25 W4 W4.heap.size (fun k => b5 < k))
 have HB4 := Aside0.mk (show W4.heap.size ≤ W4.heap.size from Nat.le_refl _)
 have HN0 := HN
 obtain ⟨nb, hnb⟩ : ∃ nb, nb = W4.heap.size := ⟨_, rfl⟩
 clear HN0 HB4
 rw [← hnb] at HN LB5
 have HS4 := Aside0.mk (show nb ≤ W4.heap.size by omega)
 clear hnb
 go_wp2_with fail
 go_loopg [24] l.length (fun kq v24 w' => ∃ (ii : Int) (i : Nat) (vF : Value) (acc tr : List S25), v24 = .int .i64 ii ∧ Aside0 (ii = (i : Int)) ∧ Aside0 (i + kq = l.length) ∧ Aside0 (fTs k l kq i = some tr) ∧ Aside0 (acc ++ tr = ts0) ∧ Aside0 (acc.length = i) ∧ Aside0 (nb ≤ w'.heap.size) ∧ Aside0 (Kd.N k25 25 w' nb (fun k => b5 < k) vF acc) ∧ Aside0 (Bs w w' [(b5, #[.int .i64 5, .bool false, .int .i64 0, .string ⟨#[]⟩, vF, .slice none 0 0], 25), (br, #[.int .i64 0, .bool false, .int .i64 0, .string ⟨#[]⟩, .slice none 0 0, .slice none 0 0], 25), (bs, #[.slice A l.length c, .bool st], 41)]))
 case atStart => exact ⟨0, 0, .slice none 0 0, [], ts0, rfl, ⟨rfl⟩, ⟨by omega⟩, HTS, ⟨rfl⟩, ⟨rfl⟩, HS4, HN, HP⟩
 case round =>
  clear HP HN HTS HS4 ys0 ys1
  obtain ⟨ii, i, vF, acc, tr, rfl, HII, HI, HTS, HAC, HLA, HS4, HN, HP⟩ := hrel
  obtain ⟨Av, cv, rfl⟩ := Kd.N_slice HN.out
  cases gk with
  | zero =>
   have e0 : decide (ii < (l.length : Int)) = false := decide_eq_false (by have := HII.out; have := HI.out; omega)
   have H2 := HTS.out
   rw [fTs] at H2
   injection H2 with H2
   have H3 := HAC.out
   rw [← H2, List.append_nil] at H3
   have H1 := H.out
   rw [← H3] at H1
   clear HTS HAC H H2 H3
   by_cases c2 : acc.length ≤ 1000000
   case neg => rw [if_neg c2] at H1; cases H1
   rw [if_pos c2] at H1
   obtain ⟨v1, hv1, H1⟩ := Option.bind_eq_some_iff.1 H1
   obtain ⟨v2, hv2, H1⟩ := Option.bind_eq_some_iff.1 H1
   obtain ⟨e2, hck, H1⟩ := Option.bind_eq_some_iff.1 H1
   have HV1 := Aside0.mk hv1
   have HV2 := Aside0.mk hv2
   have HCK := Aside0.mk hck
   have H := Aside0.mk H1
   clear hv1 hv2 hck H1 c2
   have HFC := Aside0.mk (Kd.N_reads' HN.out).2.1
   have HF := Aside0.mk (Kd.F_mono (Kd.N_F HN.out) (ok' := fun k => br < k) (fun k hk => Nat.lt_trans LBR.out hk))
   clear HN HS4
   go_upto_region 25 with (fail)
   have hb := below_drew (Below.refl wr.heap.size wr)
   have n0 := Aside0.mk (HP.out.below hb)
   have n1 := Aside0.mk (Kd.F_below HF.out hb)
   clear HP HF
   have HP := n0
   have HF := n1
   clear n0 n1
   clear hb
   refine start_ (n := 9) (S := fun w' => w'.cell? ⟨b5, 0, none⟩ = some (.int .i64 5) ∧ w'.cell? ⟨b5, 1, none⟩ = some (.bool false) ∧ w'.cell? ⟨b5, 2, none⟩ = some (.int .i64 0) ∧ w'.cell? ⟨b5, 3, none⟩ = some (.string ⟨#[]⟩) ∧ w'.cell? ⟨b5, 4, none⟩ = some (.slice Av acc.length cv) ∧ w'.cell? ⟨b5, 5, none⟩ = some (.slice none 0 0) ∧ w'.cell? ⟨bs, 1, none⟩ = some (.bool st)) (ds := [8]) #[false, false, false, false, false, false, false, false, false] (by kernel_rfl) rfl rfl ⟨HP.out.cl 0 0 rfl rfl, HP.out.cl 0 1 rfl rfl, HP.out.cl 0 2 rfl rfl, HP.out.cl 0 3 rfl rfl, HP.out.cl 0 4 rfl rfl, HP.out.cl 0 5 rfl rfl, HP.out.cl 2 1 rfl rfl⟩ (fun hHeld => ?_)
   generalize wr.drew = W9 at HP HF hHeld ⊢
   refine pure_ (i := 0) (N := some 94) (v := ?_) (a' := ?_) (ob 9 1) rfl rfl (by kernel_rfl) (fun _ _ _ h => h) (Or.inl ⟨by rfl, ?_⟩) ?_ ?_
   rotate_left
   ·intro w'
    go_simp
    with_reducible rfl
   rotate_left
   ·simp only [Act.put, List.setIfInBounds_toArray, List.set_cons_zero, List.set_cons_succ, i64_w, i32_w]
    rfl
   refine pure_ (i := 3) (N := some 97) (v := ?_) (a' := ?_) (ob 9 9) rfl rfl (by kernel_rfl) (fun _ _ _ h => h) (Or.inl ⟨by rfl, ?_⟩) ?_ ?_
   rotate_left
   ·intro w'
    go_simp
    with_reducible rfl
   rotate_left
   ·simp only [Act.put, List.setIfInBounds_toArray, List.set_cons_zero, List.set_cons_succ, i64_w, i32_w]
    rfl
   refine take_ (i := 1) (N := some 95) (v := ?_) (a' := ?_) (ob 9 11) rfl rfl (by kernel_rfl) (fun _ _ _ h => h) (Or.inl ⟨by rfl, ?_⟩) hHeld ?_ ?_
   rotate_left
   ·rintro w' ⟨s0, s1, s2, s3, s4, s5, s6⟩
    go_simp
    with_reducible rfl
   rotate_left
   ·simp only [Act.put, List.setIfInBounds_toArray, List.set_cons_zero, List.set_cons_succ, i64_w, i32_w]
    rfl
   refine take_ (i := 4) (N := some 98) (v := ?_) (a' := ?_) (ob 9 27) rfl rfl (by kernel_rfl) (fun _ _ _ h => h) (Or.inl ⟨by rfl, ?_⟩) hHeld ?_ ?_
   rotate_left
   ·rintro w' ⟨s0, s1, s2, s3, s4, s5, s6⟩
    go_simp
    with_reducible rfl
   rotate_left
   ·simp only [Act.put, List.setIfInBounds_toArray, List.set_cons_zero, List.set_cons_succ, i64_w, i32_w]
    rfl
   refine join_ (σ := Option Addr × Nat × Option Addr × Nat × Option Addr × Nat × Option Addr × Nat × Nat) 1 (ob 9 255) (fun q => [(96, .agg #[.int .i64 v1.f0, .bool v1.f1, .int .i64 v1.f2, .string v1.f3, .slice q.1 v1.f4.length q.2.1, .slice q.2.2.1 v1.f5.length q.2.2.2.1]), (99, .agg #[.int .i64 1, .bool st, .int .i64 0, .string ⟨#[]⟩, .slice none 0 0, .slice none 0 0]), (100, .agg #[.int .i64 v2.f0, .bool v2.f1, .int .i64 v2.f2, .string v2.f3, .slice q.2.2.2.2.1 v2.f4.length q.2.2.2.2.2.1, .slice q.2.2.2.2.2.2.1 v2.f5.length q.2.2.2.2.2.2.2.1]), (12, .pointer (some ⟨q.2.2.2.2.2.2.2.2, 0, none⟩))]) (fun q w' => Bs w w' [(q.2.2.2.2.2.2.2.2, #[.int .i64 0, .bool false, .int .i64 0, .string ⟨#[]⟩, .slice none 0 0, .slice none 0 0], 25), (b5, #[.int .i64 5, .bool false, .int .i64 0, .string ⟨#[]⟩, .slice Av acc.length cv, .slice none 0 0], 25), (br, #[.int .i64 0, .bool false, .int .i64 0, .string ⟨#[]⟩, .slice none 0 0, .slice none 0 0], 25), (bs, #[.slice A l.length c, .bool st], 41)] ∧ RdF w' (fun k => br < k ∧ k ≠ q.2.2.2.2.2.2.2.2) v2 q.2.2.2.2.1 q.2.2.2.2.2.1 q.2.2.2.2.2.2.1 q.2.2.2.2.2.2.2.1) ?_ ?_
   rotate_left
   ·intro hCont
    refine two_ (i := 2) (j := 7) (Ni := some 96) (Nj := some 12) (ob 9 31) (ob 9 155) rfl rfl rfl rfl (by kernel_rfl) (by decide) (by decide) (fun K hK => ?_) (fun K hK => ?_)
    ·skip
     refine goes_ Tryz.func29 (by kernel_rfl) rfl #[.agg #[.int .i64 6, .bool false, .int .i64 0, .string ⟨#[]⟩, .slice none 0 0, .slice none 0 0], .string ⟨#[102, 105, 101, 108, 100, 115]⟩, .agg #[.int .i64 5, .bool false, .int .i64 0, .string ⟨#[]⟩, .slice Av acc.length cv, .slice none 0 0]] (by rfl) rfl rfl (by simp only [List.map_toArray, List.map_cons, List.map_nil]; rfl) ?_
     with_reducible refine (put_rowT ⟨#[102, 105, 101, 108, 100, 115]⟩ acc Av cv v1 _ (fun k => br < k) HF.out HFC.out HV1.out).mono ?_
     rintro e y2 ⟨J4, J4c, J5, J5c, rfl, hr, hb⟩
     refine ⟨_, rfl, ?_⟩
     have LTR := Aside0.mk (HP.out.lt 1 rfl)
     have H1 := Aside0.mk (hr.mono (ok' := (fun k => br < k)) (fun k hk => hk.elim (fun h_ => h_) (fun h_ => by have := LTR.out; omega)))
     clear LTR
     have n0 := Aside0.mk (HP.out.below hb)
     clear HP
     have HP := n0
     clear n0
     clear hr hb HF
     refine hK.out _ _ ⟨HP.out.cl 0 0 rfl rfl, HP.out.cl 0 1 rfl rfl, HP.out.cl 0 2 rfl rfl, HP.out.cl 0 3 rfl rfl, HP.out.cl 0 4 rfl rfl, HP.out.cl 0 5 rfl rfl, HP.out.cl 2 1 rfl rfl⟩ (fun hHeld => ?_)
     clear hK K
     refine norm_ (a' := ?_) ?_ ?_
     rotate_left
     ·show Act.put _ (some 96) _ = _
      simp only [Act.put, List.setIfInBounds_toArray, List.set_cons_zero, List.set_cons_succ, i64_w, i32_w]
      rfl
     refine two_ (i := 5) (j := 7) (Ni := some 99) (Nj := some 12) (ob 9 63) (ob 9 159) rfl rfl rfl rfl (by kernel_rfl) (by decide) (by decide) (fun K hK => ?_) (fun K hK => ?_)
     ·skip
      refine goes_ Tryz.func32 (by kernel_rfl) rfl #[.bool st] (by rfl) rfl rfl (by simp only [List.map_toArray, List.map_cons, List.map_nil]; rfl) ?_
      with_reducible refine (yes_calls st _).mono ?_
      rintro e y5 ⟨rfl, hb⟩
      refine ⟨_, rfl, ?_⟩
      have n0 := Aside0.mk (HP.out.below hb)
      have n1 := Aside0.mk (H1.out.below hb)
      clear HP H1
      have HP := n0
      have H1 := n1
      clear n0 n1
      clear hb
      refine hK.out _ _ ⟨HP.out.cl 0 0 rfl rfl, HP.out.cl 0 1 rfl rfl, HP.out.cl 0 2 rfl rfl, HP.out.cl 0 3 rfl rfl, HP.out.cl 0 4 rfl rfl, HP.out.cl 0 5 rfl rfl, HP.out.cl 2 1 rfl rfl⟩ (fun hHeld => ?_)
      clear hK K
      refine norm_ (a' := ?_) ?_ ?_
      rotate_left
      ·show Act.put _ (some 99) _ = _
       simp only [Act.put, List.setIfInBounds_toArray, List.set_cons_zero, List.set_cons_succ, i64_w, i32_w]
       rfl
      refine two_ (i := 6) (j := 7) (Ni := some 100) (Nj := some 12) (ob 9 127) (ob 9 191) rfl rfl rfl rfl (by kernel_rfl) (by decide) (by decide) (fun K hK => ?_) (fun K hK => ?_)
      ·skip
       refine goes_ Tryz.func29 (by kernel_rfl) rfl #[.agg #[.int .i64 v1.f0, .bool v1.f1, .int .i64 v1.f2, .string v1.f3, .slice J4 v1.f4.length J4c, .slice J5 v1.f5.length J5c], .string ⟨#[115, 116, 114, 105, 99, 116]⟩, .agg #[.int .i64 1, .bool st, .int .i64 0, .string ⟨#[]⟩, .slice none 0 0, .slice none 0 0]] (by rfl) rfl rfl (by simp only [List.map_toArray, List.map_cons, List.map_nil]; rfl) ?_
       with_reducible refine (put_lit v1 J4 J4c J5 J5c ⟨#[115, 116, 114, 105, 99, 116]⟩ 1 st 0 ⟨#[]⟩ v2 _ (fun k => br < k) H1.out HV2.out).mono ?_
       rintro e y6 ⟨G4, G4c, G5, G5c, rfl, hr, hb⟩
       refine ⟨_, rfl, ?_⟩
       have LTR := Aside0.mk (HP.out.lt 1 rfl)
       have H2 := Aside0.mk (hr.mono (ok' := (fun k => br < k)) (fun k hk => hk.elim (fun h_ => h_) (fun h_ => by have := LTR.out; omega)))
       clear LTR
       have n0 := Aside0.mk (HP.out.below hb)
       clear HP
       have HP := n0
       clear n0
       clear hr hb H1
       refine hK.out _ _ ⟨HP.out.cl 0 0 rfl rfl, HP.out.cl 0 1 rfl rfl, HP.out.cl 0 2 rfl rfl, HP.out.cl 0 3 rfl rfl, HP.out.cl 0 4 rfl rfl, HP.out.cl 0 5 rfl rfl, HP.out.cl 2 1 rfl rfl⟩ (fun hHeld => ?_)
       clear hK K
       refine norm_ (a' := ?_) ?_ ?_
       rotate_left
       ·show Act.put _ (some 100) _ = _
        simp only [Act.put, List.setIfInBounds_toArray, List.set_cons_zero, List.set_cons_succ, i64_w, i32_w]
        rfl
       refine one_ (i := 7) (N := some 12) (ob 9 255) rfl rfl (by kernel_rfl) (by decide) (fun K hK => ?_)
       refine value_ (w1 := ?_) (v := ?_) (by rfl) rfl ?_ ?_
       rotate_left 2
       ·go_simp
        constructor
        ·rfl
        ·rfl
       have hb := below_alloc (Below.refl y6.heap.size y6) (.cells #[.int .i64 0, .bool false, .int .i64 0, .string ⟨#[]⟩, .slice none 0 0, .slice none 0 0] 25)
       have n3 := Aside0.mk ((H2.out.bound.below hb).mono (ok' := fun k => br < k ∧ k ≠ y6.heap.size) (fun k hk => ⟨hk.1, Nat.ne_of_lt hk.2⟩))
       have n4 := Aside0.mk (HP.out.new (g := y6.heap.size) rfl (blk_new y6 (.cells #[.int .i64 0, .bool false, .int .i64 0, .string ⟨#[]⟩, .slice none 0 0, .slice none 0 0] 25)) hb)
       clear hb HP H2
       have HP := n4
       have H2 := n3
       clear n3 n4
       generalize y6.alloc (.cells #[.int .i64 0, .bool false, .int .i64 0, .string ⟨#[]⟩, .slice none 0 0, .slice none 0 0] 25) = y7 at *
       generalize y6.heap.size = bu at *
       refine hK.out _ _ ⟨HP.out.cl 1 0 rfl rfl, HP.out.cl 1 1 rfl rfl, HP.out.cl 1 2 rfl rfl, HP.out.cl 1 3 rfl rfl, HP.out.cl 1 4 rfl rfl, HP.out.cl 1 5 rfl rfl, HP.out.cl 3 1 rfl rfl⟩ (fun hHeld => ?_)
       clear hK K
       refine norm_ (a' := ?_) ?_ ?_
       rotate_left
       ·show Act.put _ (some 12) _ = _
        simp only [Act.put, List.setIfInBounds_toArray, List.set_cons_zero, List.set_cons_succ, i64_w, i32_w]
        rfl
       exact norm_ (by first | (simp only [putAll, Act.put, List.setIfInBounds_toArray, List.set_cons_zero, List.set_cons_succ]; done) | (simp only [putAll, Act.put, List.setIfInBounds_toArray, List.set_cons_zero, List.set_cons_succ]; rfl)) (hCont (J4, J4c, J5, J5c, G4, G4c, G5, G5c, bu) _ ⟨HP.out, H2.out⟩)
      ·skip
       refine value_ (w1 := ?_) (v := ?_) (by rfl) rfl ?_ ?_
       rotate_left 2
       ·go_simp
        constructor
        ·rfl
        ·rfl
       have hb := below_alloc (Below.refl y5.heap.size y5) (.cells #[.int .i64 0, .bool false, .int .i64 0, .string ⟨#[]⟩, .slice none 0 0, .slice none 0 0] 25)
       have n3 := Aside0.mk ((H1.out.bound.below hb).mono (ok' := fun k => br < k ∧ k ≠ y5.heap.size) (fun k hk => ⟨hk.1, Nat.ne_of_lt hk.2⟩))
       have n4 := Aside0.mk (HP.out.new (g := y5.heap.size) rfl (blk_new y5 (.cells #[.int .i64 0, .bool false, .int .i64 0, .string ⟨#[]⟩, .slice none 0 0, .slice none 0 0] 25)) hb)
       clear hb HP H1
       have HP := n4
       have H1 := n3
       clear n3 n4
       generalize y5.alloc (.cells #[.int .i64 0, .bool false, .int .i64 0, .string ⟨#[]⟩, .slice none 0 0, .slice none 0 0] 25) = y7 at *
       generalize y5.heap.size = bu at *
       refine hK.out _ _ ⟨HP.out.cl 1 0 rfl rfl, HP.out.cl 1 1 rfl rfl, HP.out.cl 1 2 rfl rfl, HP.out.cl 1 3 rfl rfl, HP.out.cl 1 4 rfl rfl, HP.out.cl 1 5 rfl rfl, HP.out.cl 3 1 rfl rfl⟩ (fun hHeld => ?_)
       clear hK K
       refine norm_ (a' := ?_) ?_ ?_
       rotate_left
       ·show Act.put _ (some 12) _ = _
        simp only [Act.put, List.setIfInBounds_toArray, List.set_cons_zero, List.set_cons_succ, i64_w, i32_w]
        rfl
       refine one_ (i := 6) (N := some 100) (ob 9 255) rfl rfl (by kernel_rfl) (by decide) (fun K hK => ?_)
       refine goes_ Tryz.func29 (by kernel_rfl) rfl #[.agg #[.int .i64 v1.f0, .bool v1.f1, .int .i64 v1.f2, .string v1.f3, .slice J4 v1.f4.length J4c, .slice J5 v1.f5.length J5c], .string ⟨#[115, 116, 114, 105, 99, 116]⟩, .agg #[.int .i64 1, .bool st, .int .i64 0, .string ⟨#[]⟩, .slice none 0 0, .slice none 0 0]] (by rfl) rfl rfl (by simp only [List.map_toArray, List.map_cons, List.map_nil]; rfl) ?_
       with_reducible refine (put_lit v1 J4 J4c J5 J5c ⟨#[115, 116, 114, 105, 99, 116]⟩ 1 st 0 ⟨#[]⟩ v2 _ (fun k => br < k ∧ k ≠ bu) H1.out HV2.out).mono ?_
       rintro e y6 ⟨G4, G4c, G5, G5c, rfl, hr, hb⟩
       refine ⟨_, rfl, ?_⟩
       have LTU := Aside0.mk (HP.out.lt 0 rfl)
       have LTR := Aside0.mk (HP.out.lt 2 rfl)
       have H2 := Aside0.mk (hr.mono (ok' := (fun k => br < k ∧ k ≠ bu)) (fun k hk => hk.elim (fun h_ => h_) (fun h_ => ⟨by have := LTR.out; omega, by have := LTU.out; omega⟩)))
       clear LTU LTR
       have n0 := Aside0.mk (HP.out.below hb)
       clear HP
       have HP := n0
       clear n0
       clear hr hb H1
       refine hK.out _ _ ⟨HP.out.cl 1 0 rfl rfl, HP.out.cl 1 1 rfl rfl, HP.out.cl 1 2 rfl rfl, HP.out.cl 1 3 rfl rfl, HP.out.cl 1 4 rfl rfl, HP.out.cl 1 5 rfl rfl, HP.out.cl 3 1 rfl rfl⟩ (fun hHeld => ?_)
       clear hK K
       refine norm_ (a' := ?_) ?_ ?_
       rotate_left
       ·show Act.put _ (some 100) _ = _
        simp only [Act.put, List.setIfInBounds_toArray, List.set_cons_zero, List.set_cons_succ, i64_w, i32_w]
        rfl
       exact norm_ (by first | (simp only [putAll, Act.put, List.setIfInBounds_toArray, List.set_cons_zero, List.set_cons_succ]; done) | (simp only [putAll, Act.put, List.setIfInBounds_toArray, List.set_cons_zero, List.set_cons_succ]; rfl)) (hCont (J4, J4c, J5, J5c, G4, G4c, G5, G5c, bu) _ ⟨HP.out, H2.out⟩)
     ·skip
      refine value_ (w1 := ?_) (v := ?_) (by rfl) rfl ?_ ?_
      rotate_left 2
      ·go_simp
       constructor
       ·rfl
       ·rfl
      have hb := below_alloc (Below.refl y2.heap.size y2) (.cells #[.int .i64 0, .bool false, .int .i64 0, .string ⟨#[]⟩, .slice none 0 0, .slice none 0 0] 25)
      have n3 := Aside0.mk ((H1.out.bound.below hb).mono (ok' := fun k => br < k ∧ k ≠ y2.heap.size) (fun k hk => ⟨hk.1, Nat.ne_of_lt hk.2⟩))
      have n4 := Aside0.mk (HP.out.new (g := y2.heap.size) rfl (blk_new y2 (.cells #[.int .i64 0, .bool false, .int .i64 0, .string ⟨#[]⟩, .slice none 0 0, .slice none 0 0] 25)) hb)
      clear hb HP H1
      have HP := n4
      have H1 := n3
      clear n3 n4
      generalize y2.alloc (.cells #[.int .i64 0, .bool false, .int .i64 0, .string ⟨#[]⟩, .slice none 0 0, .slice none 0 0] 25) = y7 at *
      generalize y2.heap.size = bu at *
      refine hK.out _ _ ⟨HP.out.cl 1 0 rfl rfl, HP.out.cl 1 1 rfl rfl, HP.out.cl 1 2 rfl rfl, HP.out.cl 1 3 rfl rfl, HP.out.cl 1 4 rfl rfl, HP.out.cl 1 5 rfl rfl, HP.out.cl 3 1 rfl rfl⟩ (fun hHeld => ?_)
      clear hK K
      refine norm_ (a' := ?_) ?_ ?_
      rotate_left
      ·show Act.put _ (some 12) _ = _
       simp only [Act.put, List.setIfInBounds_toArray, List.set_cons_zero, List.set_cons_succ, i64_w, i32_w]
       rfl
      refine one_ (i := 5) (N := some 99) (ob 9 191) rfl rfl (by kernel_rfl) (by decide) (fun K hK => ?_)
      refine goes_ Tryz.func32 (by kernel_rfl) rfl #[.bool st] (by rfl) rfl rfl (by simp only [List.map_toArray, List.map_cons, List.map_nil]; rfl) ?_
      with_reducible refine (yes_calls st _).mono ?_
      rintro e y5 ⟨rfl, hb⟩
      refine ⟨_, rfl, ?_⟩
      have n0 := Aside0.mk (HP.out.below hb)
      have n1 := Aside0.mk (H1.out.below hb)
      clear HP H1
      have HP := n0
      have H1 := n1
      clear n0 n1
      clear hb
      refine hK.out _ _ ⟨HP.out.cl 1 0 rfl rfl, HP.out.cl 1 1 rfl rfl, HP.out.cl 1 2 rfl rfl, HP.out.cl 1 3 rfl rfl, HP.out.cl 1 4 rfl rfl, HP.out.cl 1 5 rfl rfl, HP.out.cl 3 1 rfl rfl⟩ (fun hHeld => ?_)
      clear hK K
      refine norm_ (a' := ?_) ?_ ?_
      rotate_left
      ·show Act.put _ (some 99) _ = _
       simp only [Act.put, List.setIfInBounds_toArray, List.set_cons_zero, List.set_cons_succ, i64_w, i32_w]
       rfl
      refine one_ (i := 6) (N := some 100) (ob 9 255) rfl rfl (by kernel_rfl) (by decide) (fun K hK => ?_)
      refine goes_ Tryz.func29 (by kernel_rfl) rfl #[.agg #[.int .i64 v1.f0, .bool v1.f1, .int .i64 v1.f2, .string v1.f3, .slice J4 v1.f4.length J4c, .slice J5 v1.f5.length J5c], .string ⟨#[115, 116, 114, 105, 99, 116]⟩, .agg #[.int .i64 1, .bool st, .int .i64 0, .string ⟨#[]⟩, .slice none 0 0, .slice none 0 0]] (by rfl) rfl rfl (by simp only [List.map_toArray, List.map_cons, List.map_nil]; rfl) ?_
      with_reducible refine (put_lit v1 J4 J4c J5 J5c ⟨#[115, 116, 114, 105, 99, 116]⟩ 1 st 0 ⟨#[]⟩ v2 _ (fun k => br < k ∧ k ≠ bu) H1.out HV2.out).mono ?_
      rintro e y6 ⟨G4, G4c, G5, G5c, rfl, hr, hb⟩
      refine ⟨_, rfl, ?_⟩
      have LTU := Aside0.mk (HP.out.lt 0 rfl)
      have LTR := Aside0.mk (HP.out.lt 2 rfl)
      have H2 := Aside0.mk (hr.mono (ok' := (fun k => br < k ∧ k ≠ bu)) (fun k hk => hk.elim (fun h_ => h_) (fun h_ => ⟨by have := LTR.out; omega, by have := LTU.out; omega⟩)))
      clear LTU LTR
      have n0 := Aside0.mk (HP.out.below hb)
      clear HP
      have HP := n0
      clear n0
      clear hr hb H1
      refine hK.out _ _ ⟨HP.out.cl 1 0 rfl rfl, HP.out.cl 1 1 rfl rfl, HP.out.cl 1 2 rfl rfl, HP.out.cl 1 3 rfl rfl, HP.out.cl 1 4 rfl rfl, HP.out.cl 1 5 rfl rfl, HP.out.cl 3 1 rfl rfl⟩ (fun hHeld => ?_)
      clear hK K
      refine norm_ (a' := ?_) ?_ ?_
      rotate_left
      ·show Act.put _ (some 100) _ = _
       simp only [Act.put, List.setIfInBounds_toArray, List.set_cons_zero, List.set_cons_succ, i64_w, i32_w]
       rfl
      exact norm_ (by first | (simp only [putAll, Act.put, List.setIfInBounds_toArray, List.set_cons_zero, List.set_cons_succ]; done) | (simp only [putAll, Act.put, List.setIfInBounds_toArray, List.set_cons_zero, List.set_cons_succ]; rfl)) (hCont (J4, J4c, J5, J5c, G4, G4c, G5, G5c, bu) _ ⟨HP.out, H2.out⟩)
    ·skip
     refine value_ (w1 := ?_) (v := ?_) (by rfl) rfl ?_ ?_
     rotate_left 2
     ·go_simp
      constructor
      ·rfl
      ·rfl
     have hb := below_alloc (Below.refl W9.heap.size W9) (.cells #[.int .i64 0, .bool false, .int .i64 0, .string ⟨#[]⟩, .slice none 0 0, .slice none 0 0] 25)
     have n3 := Aside0.mk (Kd.F_mono (Kd.F_below (Kd.F_bound HF.out) hb) (ok' := fun k => br < k ∧ k ≠ W9.heap.size) (fun k hk => ⟨hk.1, Nat.ne_of_lt hk.2⟩))
     have n4 := Aside0.mk (HP.out.new (g := W9.heap.size) rfl (blk_new W9 (.cells #[.int .i64 0, .bool false, .int .i64 0, .string ⟨#[]⟩, .slice none 0 0, .slice none 0 0] 25)) hb)
     clear hb HP HF
     have HP := n4
     have HF := n3
     clear n3 n4
     generalize W9.alloc (.cells #[.int .i64 0, .bool false, .int .i64 0, .string ⟨#[]⟩, .slice none 0 0, .slice none 0 0] 25) = y7 at *
     generalize W9.heap.size = bu at *
     refine hK.out _ _ ⟨HP.out.cl 1 0 rfl rfl, HP.out.cl 1 1 rfl rfl, HP.out.cl 1 2 rfl rfl, HP.out.cl 1 3 rfl rfl, HP.out.cl 1 4 rfl rfl, HP.out.cl 1 5 rfl rfl, HP.out.cl 3 1 rfl rfl⟩ (fun hHeld => ?_)
     clear hK K
     refine norm_ (a' := ?_) ?_ ?_
     rotate_left
     ·show Act.put _ (some 12) _ = _
      simp only [Act.put, List.setIfInBounds_toArray, List.set_cons_zero, List.set_cons_succ, i64_w, i32_w]
      rfl
     refine one_ (i := 2) (N := some 96) (ob 9 159) rfl rfl (by kernel_rfl) (by decide) (fun K hK => ?_)
     refine goes_ Tryz.func29 (by kernel_rfl) rfl #[.agg #[.int .i64 6, .bool false, .int .i64 0, .string ⟨#[]⟩, .slice none 0 0, .slice none 0 0], .string ⟨#[102, 105, 101, 108, 100, 115]⟩, .agg #[.int .i64 5, .bool false, .int .i64 0, .string ⟨#[]⟩, .slice Av acc.length cv, .slice none 0 0]] (by rfl) rfl rfl (by simp only [List.map_toArray, List.map_cons, List.map_nil]; rfl) ?_
     with_reducible refine (put_rowT ⟨#[102, 105, 101, 108, 100, 115]⟩ acc Av cv v1 _ (fun k => br < k ∧ k ≠ bu) HF.out HFC.out HV1.out).mono ?_
     rintro e y2 ⟨J4, J4c, J5, J5c, rfl, hr, hb⟩
     refine ⟨_, rfl, ?_⟩
     have LTU := Aside0.mk (HP.out.lt 0 rfl)
     have LTR := Aside0.mk (HP.out.lt 2 rfl)
     have H1 := Aside0.mk (hr.mono (ok' := (fun k => br < k ∧ k ≠ bu)) (fun k hk => hk.elim (fun h_ => h_) (fun h_ => ⟨by have := LTR.out; omega, by have := LTU.out; omega⟩)))
     clear LTU LTR
     have n0 := Aside0.mk (HP.out.below hb)
     clear HP
     have HP := n0
     clear n0
     clear hr hb HF
     refine hK.out _ _ ⟨HP.out.cl 1 0 rfl rfl, HP.out.cl 1 1 rfl rfl, HP.out.cl 1 2 rfl rfl, HP.out.cl 1 3 rfl rfl, HP.out.cl 1 4 rfl rfl, HP.out.cl 1 5 rfl rfl, HP.out.cl 3 1 rfl rfl⟩ (fun hHeld => ?_)
     clear hK K
     refine norm_ (a' := ?_) ?_ ?_
     rotate_left
     ·show Act.put _ (some 96) _ = _
      simp only [Act.put, List.setIfInBounds_toArray, List.set_cons_zero, List.set_cons_succ, i64_w, i32_w]
      rfl
     refine one_ (i := 5) (N := some 99) (ob 9 191) rfl rfl (by kernel_rfl) (by decide) (fun K hK => ?_)
     refine goes_ Tryz.func32 (by kernel_rfl) rfl #[.bool st] (by rfl) rfl rfl (by simp only [List.map_toArray, List.map_cons, List.map_nil]; rfl) ?_
     with_reducible refine (yes_calls st _).mono ?_
     rintro e y5 ⟨rfl, hb⟩
     refine ⟨_, rfl, ?_⟩
     have n0 := Aside0.mk (HP.out.below hb)
     have n1 := Aside0.mk (H1.out.below hb)
     clear HP H1
     have HP := n0
     have H1 := n1
     clear n0 n1
     clear hb
     refine hK.out _ _ ⟨HP.out.cl 1 0 rfl rfl, HP.out.cl 1 1 rfl rfl, HP.out.cl 1 2 rfl rfl, HP.out.cl 1 3 rfl rfl, HP.out.cl 1 4 rfl rfl, HP.out.cl 1 5 rfl rfl, HP.out.cl 3 1 rfl rfl⟩ (fun hHeld => ?_)
     clear hK K
     refine norm_ (a' := ?_) ?_ ?_
     rotate_left
     ·show Act.put _ (some 99) _ = _
      simp only [Act.put, List.setIfInBounds_toArray, List.set_cons_zero, List.set_cons_succ, i64_w, i32_w]
      rfl
     refine one_ (i := 6) (N := some 100) (ob 9 255) rfl rfl (by kernel_rfl) (by decide) (fun K hK => ?_)
     refine goes_ Tryz.func29 (by kernel_rfl) rfl #[.agg #[.int .i64 v1.f0, .bool v1.f1, .int .i64 v1.f2, .string v1.f3, .slice J4 v1.f4.length J4c, .slice J5 v1.f5.length J5c], .string ⟨#[115, 116, 114, 105, 99, 116]⟩, .agg #[.int .i64 1, .bool st, .int .i64 0, .string ⟨#[]⟩, .slice none 0 0, .slice none 0 0]] (by rfl) rfl rfl (by simp only [List.map_toArray, List.map_cons, List.map_nil]; rfl) ?_
     with_reducible refine (put_lit v1 J4 J4c J5 J5c ⟨#[115, 116, 114, 105, 99, 116]⟩ 1 st 0 ⟨#[]⟩ v2 _ (fun k => br < k ∧ k ≠ bu) H1.out HV2.out).mono ?_
     rintro e y6 ⟨G4, G4c, G5, G5c, rfl, hr, hb⟩
     refine ⟨_, rfl, ?_⟩
     have LTU := Aside0.mk (HP.out.lt 0 rfl)
     have LTR := Aside0.mk (HP.out.lt 2 rfl)
     have H2 := Aside0.mk (hr.mono (ok' := (fun k => br < k ∧ k ≠ bu)) (fun k hk => hk.elim (fun h_ => h_) (fun h_ => ⟨by have := LTR.out; omega, by have := LTU.out; omega⟩)))
     clear LTU LTR
     have n0 := Aside0.mk (HP.out.below hb)
     clear HP
     have HP := n0
     clear n0
     clear hr hb H1
     refine hK.out _ _ ⟨HP.out.cl 1 0 rfl rfl, HP.out.cl 1 1 rfl rfl, HP.out.cl 1 2 rfl rfl, HP.out.cl 1 3 rfl rfl, HP.out.cl 1 4 rfl rfl, HP.out.cl 1 5 rfl rfl, HP.out.cl 3 1 rfl rfl⟩ (fun hHeld => ?_)
     clear hK K
     refine norm_ (a' := ?_) ?_ ?_
     rotate_left
     ·show Act.put _ (some 100) _ = _
      simp only [Act.put, List.setIfInBounds_toArray, List.set_cons_zero, List.set_cons_succ, i64_w, i32_w]
      rfl
     exact norm_ (by first | (simp only [putAll, Act.put, List.setIfInBounds_toArray, List.set_cons_zero, List.set_cons_succ]; done) | (simp only [putAll, Act.put, List.setIfInBounds_toArray, List.set_cons_zero, List.set_cons_succ]; rfl)) (hCont (J4, J4c, J5, J5c, G4, G4c, G5, G5c, bu) _ ⟨HP.out, H2.out⟩)
   clear HP HF
   rintro ⟨J4, J4c, J5, J5c, G4, G4c, G5, G5c, bu⟩ W10 ⟨hp, h2⟩
   have HP := Aside0.mk hp
   have H2 := Aside0.mk h2
   clear hp h2
   have hHeld : W10.cell? ⟨b5, 0, none⟩ = some (.int .i64 5) ∧ W10.cell? ⟨b5, 1, none⟩ = some (.bool false) ∧ W10.cell? ⟨b5, 2, none⟩ = some (.int .i64 0) ∧ W10.cell? ⟨b5, 3, none⟩ = some (.string ⟨#[]⟩) ∧ W10.cell? ⟨b5, 4, none⟩ = some (.slice Av acc.length cv) ∧ W10.cell? ⟨b5, 5, none⟩ = some (.slice none 0 0) ∧ W10.cell? ⟨bs, 1, none⟩ = some (.bool st) := ⟨HP.out.cl 1 0 rfl rfl, HP.out.cl 1 1 rfl rfl, HP.out.cl 1 2 rfl rfl, HP.out.cl 1 3 rfl rfl, HP.out.cl 1 4 rfl rfl, HP.out.cl 1 5 rfl rfl, HP.out.cl 3 1 rfl rfl⟩
   refine norm_ (a' := ?_) ?_ ?_
   rotate_left
   ·simp only [putAll, Act.put, List.setIfInBounds_toArray, List.set_cons_zero, List.set_cons_succ]
    rfl
   refine last_ (i := 8) (N := none) (ob 9 511) rfl rfl (by kernel_rfl) (by decide) (fun K hK => ?_)
   have yu0 : W10.cell? ⟨bu, 0, none⟩ = some (.int .i64 0) := HP.out.cl 0 0 rfl rfl
   have yu1 : W10.cell? ⟨bu, 1, none⟩ = some (.bool false) := HP.out.cl 0 1 rfl rfl
   have yu2 : W10.cell? ⟨bu, 2, none⟩ = some (.int .i64 0) := HP.out.cl 0 2 rfl rfl
   have yu3 : W10.cell? ⟨bu, 3, none⟩ = some (.string ⟨#[]⟩) := HP.out.cl 0 3 rfl rfl
   have yu4 : W10.cell? ⟨bu, 4, none⟩ = some (.slice none 0 0) := HP.out.cl 0 4 rfl rfl
   have yu5 : W10.cell? ⟨bu, 5, none⟩ = some (.slice none 0 0) := HP.out.cl 0 5 rfl rfl
   have zu0 := HP.out.fz 0 0 rfl
   have zu1 := HP.out.fz 0 1 rfl
   have zu2 := HP.out.fz 0 2 rfl
   have zu3 := HP.out.fz 0 3 rfl
   have zu4 := HP.out.fz 0 4 rfl
   have zu5 := HP.out.fz 0 5 rfl
   refine skip_ (w1 := ?_) (by rfl) rfl ?_ ?_
   rotate_left
   ·go_simp
    rfl
   clear yu0 zu0 yu1 zu1 yu2 zu2 yu3 zu3 yu4 zu4 yu5 zu5
   have n0 := Aside0.mk (HP.out.six 0 rfl (.int .i64 v2.f0) (.bool v2.f1) (.int .i64 v2.f2) (.string v2.f3) (.slice G4 v2.f4.length G4c) (.slice G5 v2.f5.length G5c))
   have n1 := Aside0.mk (H2.out.six (g := bu) (fun k hk => hk.2) (.int .i64 v2.f0) (.bool v2.f1) (.int .i64 v2.f2) (.string v2.f3) (.slice G4 v2.f4.length G4c) (.slice G5 v2.f5.length G5c))
   clear HP H2
   have HP := n0
   have H2 := n1
   clear n0 n1
   generalize ((((((W10.setCell ⟨bu, 0, none⟩ (.int .i64 v2.f0)).setCell ⟨bu, 1, none⟩ (.bool v2.f1)).setCell ⟨bu, 2, none⟩ (.int .i64 v2.f2)).setCell ⟨bu, 3, none⟩ (.string v2.f3)).setCell ⟨bu, 4, none⟩ (.slice G4 v2.f4.length G4c)).setCell ⟨bu, 5, none⟩ (.slice G5 v2.f5.length G5c)) = W11 at HP H2 ⊢
   refine hK.out _ _ ?_
   clear hK K
   refine done_ (by kernel_rfl) ?_
   have yu0 : W11.cell? ⟨bu, 0, none⟩ = some (.int .i64 v2.f0) := HP.out.cl 0 0 rfl rfl
   have yu1 : W11.cell? ⟨bu, 1, none⟩ = some (.bool v2.f1) := HP.out.cl 0 1 rfl rfl
   have yu2 : W11.cell? ⟨bu, 2, none⟩ = some (.int .i64 v2.f2) := HP.out.cl 0 2 rfl rfl
   have yu3 : W11.cell? ⟨bu, 3, none⟩ = some (.string v2.f3) := HP.out.cl 0 3 rfl rfl
   have yu4 : W11.cell? ⟨bu, 4, none⟩ = some (.slice G4 v2.f4.length G4c) := HP.out.cl 0 4 rfl rfl
   have yu5 : W11.cell? ⟨bu, 5, none⟩ = some (.slice G5 v2.f5.length G5c) := HP.out.cl 0 5 rfl rfl
   have H1 := H.out
   clear H
   by_cases c2 : e2 = 0
   case neg =>
    rw [if_neg c2] at H1
    injection H1 with H1
    subst H1
    have e2a : (e2 == 0) = false := beq_eq_false_iff_ne.2 c2
    have e2b : (e2 != 0) = true := bne_iff_ne.2 c2
    go_wp2_with (go_at_call 18; refine (check_calls k v2 G4 G4c G5 G5c e2 _ H2.out.now HCK.out).mono ?_; rintro e w6 ⟨rfl, hb⟩; have n0 := Aside0.mk (HP.out.below hb); clear HP; have HP := n0; clear n0; clear hb; have yr0 : w6.cell? ⟨br, 0, none⟩ = some (.int .i64 0) := HP.out.cl 2 0 rfl rfl; have yr1 : w6.cell? ⟨br, 1, none⟩ = some (.bool false) := HP.out.cl 2 1 rfl rfl; have yr2 : w6.cell? ⟨br, 2, none⟩ = some (.int .i64 0) := HP.out.cl 2 2 rfl rfl; have yr3 : w6.cell? ⟨br, 3, none⟩ = some (.string ⟨#[]⟩) := HP.out.cl 2 3 rfl rfl; have yr4 : w6.cell? ⟨br, 4, none⟩ = some (.slice none 0 0) := HP.out.cl 2 4 rfl rfl; have yr5 : w6.cell? ⟨br, 5, none⟩ = some (.slice none 0 0) := HP.out.cl 2 5 rfl rfl; have zr0 := HP.out.fz 2 0 rfl; have zr1 := HP.out.fz 2 1 rfl; have zr2 := HP.out.fz 2 2 rfl; have zr3 := HP.out.fz 2 3 rfl; have zr4 := HP.out.fz 2 4 rfl; have zr5 := HP.out.fz 2 5 rfl)
    refine bodyPost_ret (results_ct rfl _ _ br 25 #[.int .i64 0, .bool false, .int .i64 0, .string ⟨#[]⟩, .slice none 0 0, .slice none 0 0] (0, 0) _ rfl (put6 (HP.out.get 2 rfl) _ _ _ _ _ _) Tryz.underlying25 rfl (by kernel_rfl)) rfl ?_
    exact ⟨none, 0, none, 0, rfl, Rd.nil _ _ _ _ _, put6_below HP.out.B (HP.out.low 2 rfl) _ _ _ _ _ _⟩
   rw [if_pos c2] at H1
   injection H1 with H1
   subst H1
   have e2a : (e2 == 0) = true := beq_iff_eq.2 c2
   have e2b : (e2 != 0) = false := bne_eq_false_iff_eq.2 c2
   go_upto_region 29 with (go_at_call 18; refine (check_calls k v2 G4 G4c G5 G5c e2 _ H2.out.now HCK.out).mono ?_; rintro e w6 ⟨rfl, hb⟩; have n0 := Aside0.mk (HP.out.below hb); clear HP; have HP := n0; clear n0; have n1 := Aside0.mk (H2.out.below hb); clear H2; have H2 := n1; clear n1; clear hb)
   clear yu0 yu1 yu2 yu3 yu4 yu5
   have yu0 : w6.cell? ⟨bu, 0, none⟩ = some (.int .i64 v2.f0) := HP.out.cl 0 0 rfl rfl
   have yu1 : w6.cell? ⟨bu, 1, none⟩ = some (.bool v2.f1) := HP.out.cl 0 1 rfl rfl
   have yu2 : w6.cell? ⟨bu, 2, none⟩ = some (.int .i64 v2.f2) := HP.out.cl 0 2 rfl rfl
   have yu3 : w6.cell? ⟨bu, 3, none⟩ = some (.string v2.f3) := HP.out.cl 0 3 rfl rfl
   have yu4 : w6.cell? ⟨bu, 4, none⟩ = some (.slice G4 v2.f4.length G4c) := HP.out.cl 0 4 rfl rfl
   have yu5 : w6.cell? ⟨bu, 5, none⟩ = some (.slice G5 v2.f5.length G5c) := HP.out.cl 0 5 rfl rfl
   have yr0 : w6.cell? ⟨br, 0, none⟩ = some (.int .i64 0) := HP.out.cl 2 0 rfl rfl
   have yr1 : w6.cell? ⟨br, 1, none⟩ = some (.bool false) := HP.out.cl 2 1 rfl rfl
   have yr2 : w6.cell? ⟨br, 2, none⟩ = some (.int .i64 0) := HP.out.cl 2 2 rfl rfl
   have yr3 : w6.cell? ⟨br, 3, none⟩ = some (.string ⟨#[]⟩) := HP.out.cl 2 3 rfl rfl
   have yr4 : w6.cell? ⟨br, 4, none⟩ = some (.slice none 0 0) := HP.out.cl 2 4 rfl rfl
   have yr5 : w6.cell? ⟨br, 5, none⟩ = some (.slice none 0 0) := HP.out.cl 2 5 rfl rfl
   have zr0 := HP.out.fz 2 0 rfl
   have zr1 := HP.out.fz 2 1 rfl
   have zr2 := HP.out.fz 2 2 rfl
   have zr3 := HP.out.fz 2 3 rfl
   have zr4 := HP.out.fz 2 4 rfl
   have zr5 := HP.out.fz 2 5 rfl
   go_wp2_with fail
   refine bodyPost_ret (results_ct rfl _ _ br 25 #[.int .i64 v2.f0, .bool v2.f1, .int .i64 v2.f2, .string v2.f3, .slice G4 v2.f4.length G4c, .slice G5 v2.f5.length G5c] (0, 0) _ rfl (put6 (HP.out.get 2 rfl) _ _ _ _ _ _) Tryz.underlying25 rfl (by kernel_rfl)) rfl ?_
   exact ⟨G4, G4c, G5, G5c, rfl, (H2.out.six (g := br) (fun k hk => by have := hk.1; omega) (.int .i64 v2.f0) (.bool v2.f1) (.int .i64 v2.f2) (.string v2.f3) (.slice G4 v2.f4.length G4c) (.slice G5 v2.f5.length G5c)).now, put6_below HP.out.B (HP.out.low 2 rfl) _ _ _ _ _ _⟩
  | succ k1 =>
   have H1 := HTS.out
   clear HTS
   rw [fTs, ← HII.out] at H1
   have p0 : 0 ≤ ii := by have := HII.out; omega
   have p1 : ii < (l.length : Int) := by have := HII.out; have := HI.out; omega
   have q0 : decide (ii < (l.length : Int)) = true := decide_eq_true p1
   have q1 : decide (0 ≤ ii) = true := decide_eq_true p0
   obtain ⟨ad, A6, c6, A11, c11, A12, c12, e_, x0, x1, x2, x3, x4, x5, x6, x7, x8, x9, x10, x11, x12, l6, g6, g7⟩ := at_T44 HL.out ii p0 p1
   cases e_
   obtain ⟨x, hx⟩ : ∃ x, x = rd_T44 l ii := ⟨_, rfl⟩
   rw [← hx] at x0 x1 x2 x3 x4 x5 x6 x7 x8 x9 x10 x11 x12 l6 g6 g7 H1
   clear hx
   have G6 := Aside0.mk g6
   have G7 := Aside0.mk g7
   have L6 := Aside0.mk l6
   clear g6 g7 l6
   obtain ⟨tt, htt, H1⟩ := Option.bind_eq_some_iff.1 H1
   obtain ⟨tr2, htr, H1⟩ := Option.bind_eq_some_iff.1 H1
   injection H1 with H1
   subst H1
   have HTS := Aside0.mk htr
   clear htr
   unfold fieldV at htt
   obtain ⟨t1, h1, htt⟩ := Option.bind_eq_some_iff.1 htt
   obtain ⟨kn, hkk, htt⟩ := Option.bind_eq_some_iff.1 htt
   obtain ⟨t2, h2, htt⟩ := Option.bind_eq_some_iff.1 htt
   obtain ⟨t3, h3, htt⟩ := Option.bind_eq_some_iff.1 htt
   obtain ⟨t4, h4, htt⟩ := Option.bind_eq_some_iff.1 htt
   obtain ⟨t5, h5, htt⟩ := Option.bind_eq_some_iff.1 htt
   have Q1 := Aside0.mk h1
   have QK := Aside0.mk hkk
   have Q2 := Aside0.mk h2
   have Q3 := Aside0.mk h3
   have Q4 := Aside0.mk h4
   have Q5 := Aside0.mk h5
   have Q6 := Aside0.mk htt
   clear h1 hkk h2 h3 h4 h5 htt
   replace x0 := (HP.out.B.cell (World.block_lt_of_cell? w _ x0)).trans x0
   replace x1 := (HP.out.B.cell (World.block_lt_of_cell? w _ x1)).trans x1
   replace x2 := (HP.out.B.cell (World.block_lt_of_cell? w _ x2)).trans x2
   replace x3 := (HP.out.B.cell (World.block_lt_of_cell? w _ x3)).trans x3
   replace x4 := (HP.out.B.cell (World.block_lt_of_cell? w _ x4)).trans x4
   replace x5 := (HP.out.B.cell (World.block_lt_of_cell? w _ x5)).trans x5
   replace x6 := (HP.out.B.cell (World.block_lt_of_cell? w _ x6)).trans x6
   replace x7 := (HP.out.B.cell (World.block_lt_of_cell? w _ x7)).trans x7
   replace x8 := (HP.out.B.cell (World.block_lt_of_cell? w _ x8)).trans x8
   replace x9 := (HP.out.B.cell (World.block_lt_of_cell? w _ x9)).trans x9
   replace x10 := (HP.out.B.cell (World.block_lt_of_cell? w _ x10)).trans x10
   replace x11 := (HP.out.B.cell (World.block_lt_of_cell? w _ x11)).trans x11
   replace x12 := (HP.out.B.cell (World.block_lt_of_cell? w _ x12)).trans x12
   replace p0 := eq_true p0
   replace p1 := eq_true p1
   obtain ⟨s0, hs0⟩ : ∃ s0, s0 = wr.heap.size := ⟨_, rfl⟩
   have HS0 := Aside0.mk hs0
   have n0 := Aside0.mk (Kd.N_mono (Kd.N_bound HN.out) (ok' := fun k => b5 < k ∧ k < s0) (fun k hk => ⟨hk.1, by rw [HS0.out]; exact hk.2⟩))
   clear HN
   have HN := n0
   clear n0 hs0
   have HNB := Aside0.mk (show nb ≤ s0 by rw [HS0.out]; exact HS4.out)
   have LBS := Aside0.mk (show bs < br from HP.out.nd 1 2 _ _ (by omega) rfl rfl)
   go_upto_region 8 with (((with_reducible refine gate_dst (N := 7) rfl ?_); refine box_event ?hg (N := 7) ?hd (cs := #[.string ⟨#[]⟩, .int .i64 0, .bool false, .bool false, .int .i64 0, .int .i64 0, .slice none 0 0, .int .i64 0, .bool false, .int .i64 0, .string ⟨#[]⟩, .slice none 0 0, .slice none 0 0]) (t := 44) ?hr ?_; (case hd => rfl); (case hg => rfl); (case hr => first | (go_simp; done) | (go_simp; rfl)); intro bf hg_ W5 hbox hb; have n0 := Aside0.mk (HP.out.new hg_ hbox hb); have n1 := Aside0.mk (Kd.N_below HN.out hb); have n2 := Aside0.mk ((show s0 ≤ bf by rw [HS0.out]; exact Nat.le_of_eq hg_.symm)); clear HP HN; have HP := n0; have HN := n1; have HGE := n2; clear n0 n1 n2; clear hg_ hbox hb; have yz0 : W5.cell? ⟨bf, 0, none⟩ = some (.string ⟨#[]⟩) := HP.out.cl 0 0 rfl rfl; have yz1 : W5.cell? ⟨bf, 1, none⟩ = some (.int .i64 0) := HP.out.cl 0 1 rfl rfl; have yz2 : W5.cell? ⟨bf, 2, none⟩ = some (.bool false) := HP.out.cl 0 2 rfl rfl; have yz3 : W5.cell? ⟨bf, 3, none⟩ = some (.bool false) := HP.out.cl 0 3 rfl rfl; have yz4 : W5.cell? ⟨bf, 4, none⟩ = some (.int .i64 0) := HP.out.cl 0 4 rfl rfl; have yz5 : W5.cell? ⟨bf, 5, none⟩ = some (.int .i64 0) := HP.out.cl 0 5 rfl rfl; have yz6 : W5.cell? ⟨bf, 6, none⟩ = some (.slice none 0 0) := HP.out.cl 0 6 rfl rfl; have yz7 : W5.cell? ⟨bf, 7, none⟩ = some (.int .i64 0) := HP.out.cl 0 7 rfl rfl; have yz8 : W5.cell? ⟨bf, 8, none⟩ = some (.bool false) := HP.out.cl 0 8 rfl rfl; have yz9 : W5.cell? ⟨bf, 9, none⟩ = some (.int .i64 0) := HP.out.cl 0 9 rfl rfl; have yz10 : W5.cell? ⟨bf, 10, none⟩ = some (.string ⟨#[]⟩) := HP.out.cl 0 10 rfl rfl; have yz11 : W5.cell? ⟨bf, 11, none⟩ = some (.slice none 0 0) := HP.out.cl 0 11 rfl rfl; have yz12 : W5.cell? ⟨bf, 12, none⟩ = some (.slice none 0 0) := HP.out.cl 0 12 rfl rfl; have zz0 := HP.out.fz 0 0 rfl; have zz1 := HP.out.fz 0 1 rfl; have zz2 := HP.out.fz 0 2 rfl; have zz3 := HP.out.fz 0 3 rfl; have zz4 := HP.out.fz 0 4 rfl; have zz5 := HP.out.fz 0 5 rfl; have zz6 := HP.out.fz 0 6 rfl; have zz7 := HP.out.fz 0 7 rfl; have zz8 := HP.out.fz 0 8 rfl; have zz9 := HP.out.fz 0 9 rfl; have zz10 := HP.out.fz 0 10 rfl; have zz11 := HP.out.fz 0 11 rfl; have zz12 := HP.out.fz 0 12 rfl))
   have n0 := Aside0.mk (HP.out.thirteen 0 rfl (.string x.f0) (.int .i64 x.f1) (.bool x.f2) (.bool x.f3) (.int .i64 x.f4) (.int .i64 x.f5) (.slice A6 x.f6.length c6) (.int .i64 x.f7.f0) (.bool x.f7.f1) (.int .i64 x.f7.f2) (.string x.f7.f3) (.slice A11 x.f7.f4.length c11) (.slice A12 x.f7.f5.length c12))
   have n1 := Aside0.mk (Kd.N_step HN.out (fun k hk hlt => th_same (g := bf) (k := k) (by have := hk.2; have := HGE.out; omega) (.string x.f0) (.int .i64 x.f1) (.bool x.f2) (.bool x.f3) (.int .i64 x.f4) (.int .i64 x.f5) (.slice A6 x.f6.length c6) (.int .i64 x.f7.f0) (.bool x.f7.f1) (.int .i64 x.f7.f2) (.string x.f7.f3) (.slice A11 x.f7.f4.length c11) (.slice A12 x.f7.f5.length c12)))
   clear HP HN
   have HP := n0
   have HN := n1
   clear n0 n1
   clear HS0 HS4 yz0 zz0 x0 yz1 zz1 x1 yz2 zz2 x2 yz3 zz3 x3 yz4 zz4 x4 yz5 zz5 x5 yz6 zz6 x6 yz7 zz7 x7 yz8 zz8 x8 yz9 zz9 x9 yz10 zz10 x10 yz11 zz11 x11 yz12 zz12 x12
   generalize (((((((((((((W5.setCell ⟨bf, 0, none⟩ (.string x.f0)).setCell ⟨bf, 1, none⟩ (.int .i64 x.f1)).setCell ⟨bf, 2, none⟩ (.bool x.f2)).setCell ⟨bf, 3, none⟩ (.bool x.f3)).setCell ⟨bf, 4, none⟩ (.int .i64 x.f4)).setCell ⟨bf, 5, none⟩ (.int .i64 x.f5)).setCell ⟨bf, 6, none⟩ (.slice A6 x.f6.length c6)).setCell ⟨bf, 7, none⟩ (.int .i64 x.f7.f0)).setCell ⟨bf, 8, none⟩ (.bool x.f7.f1)).setCell ⟨bf, 9, none⟩ (.int .i64 x.f7.f2)).setCell ⟨bf, 10, none⟩ (.string x.f7.f3)).setCell ⟨bf, 11, none⟩ (.slice A11 x.f7.f4.length c11)).setCell ⟨bf, 12, none⟩ (.slice A12 x.f7.f5.length c12)) = W6 at HP HN ⊢
   have yf0 : W6.cell? ⟨bf, 0, none⟩ = some (.string x.f0) := HP.out.cl 0 0 rfl rfl
   go_upto_region 9 with (first | (go_at_call 30; refine (str_calls x.f0 _).mono ?_; rintro e W7 ⟨rfl, hb⟩; have n0 := Aside0.mk (HP.out.below hb); have n1 := Aside0.mk (Kd.N_below HN.out hb); clear HP HN; have HP := n0; have HN := n1; clear n0 n1; clear hb) | (go_at_call 29; refine (put_litT ⟨#[114, 111, 117, 116, 101]⟩ 3 false 0 x.f0 t1 _ (fun k => bf < k) Q1.out).mono ?_; rintro e W8 ⟨J4, J4c, J5, J5c, rfl, hr, hb⟩; have LTF := Aside0.mk (HP.out.lt 0 rfl); have HT := Aside0.mk (hr.mono (ok' := fun k => bf < k) (fun k hk => hk.elim (fun h_ => h_) (fun h_ => by have := LTF.out; omega))); clear LTF hr; have n0 := Aside0.mk (HP.out.below hb); have n1 := Aside0.mk (Kd.N_below HN.out hb); clear HP HN; have HP := n0; have HN := n1; clear n0 n1; clear hb) | ((with_reducible refine gate_dst (N := 8) rfl ?_); refine box_event ?hg (N := 8) ?hd (cs := #[.int .i64 0, .bool false, .int .i64 0, .string ⟨#[]⟩, .slice none 0 0, .slice none 0 0]) (t := 25) ?hr ?_; (case hd => rfl); (case hg => rfl); (case hr => first | (go_simp; done) | (go_simp; rfl)); intro bt hg_ W9 hbox hb; have n0 := Aside0.mk (HP.out.new hg_ hbox hb); have n1 := Aside0.mk (Kd.N_below HN.out hb); have n2 := Aside0.mk (HT.out.bound.below hb); have n3 := Aside0.mk ((show _ = bt from hg_.symm)); have n4 := Aside0.mk ((show s0 ≤ bt by have h_ := HP.out.lt 0 rfl; have := HGE.out; omega)); clear HP HN HT; have HP := n0; have HN := n1; have HT := n2; have HGT := n3; have HGS := n4; clear n0 n1 n2 n3 n4; clear hg_ hbox hb; have yz0 : W9.cell? ⟨bt, 0, none⟩ = some (.int .i64 0) := HP.out.cl 0 0 rfl rfl; have yz1 : W9.cell? ⟨bt, 1, none⟩ = some (.bool false) := HP.out.cl 0 1 rfl rfl; have yz2 : W9.cell? ⟨bt, 2, none⟩ = some (.int .i64 0) := HP.out.cl 0 2 rfl rfl; have yz3 : W9.cell? ⟨bt, 3, none⟩ = some (.string ⟨#[]⟩) := HP.out.cl 0 3 rfl rfl; have yz4 : W9.cell? ⟨bt, 4, none⟩ = some (.slice none 0 0) := HP.out.cl 0 4 rfl rfl; have yz5 : W9.cell? ⟨bt, 5, none⟩ = some (.slice none 0 0) := HP.out.cl 0 5 rfl rfl; have zz0 := HP.out.fz 0 0 rfl; have zz1 := HP.out.fz 0 1 rfl; have zz2 := HP.out.fz 0 2 rfl; have zz3 := HP.out.fz 0 3 rfl; have zz4 := HP.out.fz 0 4 rfl; have zz5 := HP.out.fz 0 5 rfl))
   have n0 := Aside0.mk (HP.out.six 0 rfl (.int .i64 t1.f0) (.bool t1.f1) (.int .i64 t1.f2) (.string t1.f3) (.slice J4 t1.f4.length J4c) (.slice J5 t1.f5.length J5c))
   have n1 := Aside0.mk ((HT.out.six (g := bt) (fun k hk => by have := hk.2; have := HGT.out; omega) (.int .i64 t1.f0) (.bool t1.f1) (.int .i64 t1.f2) (.string t1.f3) (.slice J4 t1.f4.length J4c) (.slice J5 t1.f5.length J5c)).mono (ok' := (fun k => bf < k ∧ k ≠ bt)) (fun k hk => ⟨hk.1, by have := hk.2; have := HGT.out; omega⟩))
   have n2 := Aside0.mk (Kd.N_step HN.out (fun k hk hlt => six_same (g := bt) (k := k) (by have := hk.2; have := HGS.out; omega) hlt (.int .i64 t1.f0) (.bool t1.f1) (.int .i64 t1.f2) (.string t1.f3) (.slice J4 t1.f4.length J4c) (.slice J5 t1.f5.length J5c)))
   clear HP HT HN
   have HP := n0
   have HT := n1
   have HN := n2
   clear n0 n1 n2
   have HBF := Aside0.mk (show bf < bt from HP.out.nd 0 1 _ _ (by omega) rfl rfl)
   clear HGT yf0 yz0 zz0 yz1 zz1 yz2 zz2 yz3 zz3 yz4 zz4 yz5 zz5
   generalize ((((((W9.setCell ⟨bt, 0, none⟩ (.int .i64 t1.f0)).setCell ⟨bt, 1, none⟩ (.bool t1.f1)).setCell ⟨bt, 2, none⟩ (.int .i64 t1.f2)).setCell ⟨bt, 3, none⟩ (.string t1.f3)).setCell ⟨bt, 4, none⟩ (.slice J4 t1.f4.length J4c)).setCell ⟨bt, 5, none⟩ (.slice J5 t1.f5.length J5c)) = W10 at HP HT HN ⊢
   have hb := below_drew (Below.refl W10.heap.size W10)
   have n0 := Aside0.mk (HP.out.below hb)
   have n1 := Aside0.mk (HT.out.below hb)
   have n2 := Aside0.mk (Kd.N_below HN.out hb)
   clear HP HT HN
   have HP := n0
   have HT := n1
   have HN := n2
   clear n0 n1 n2
   clear hb
   refine start_ (n := 7) (S := fun w' => w'.cell? ⟨bt, 0, none⟩ = some (.int .i64 t1.f0) ∧ w'.cell? ⟨bt, 1, none⟩ = some (.bool t1.f1) ∧ w'.cell? ⟨bt, 2, none⟩ = some (.int .i64 t1.f2) ∧ w'.cell? ⟨bt, 3, none⟩ = some (.string t1.f3) ∧ w'.cell? ⟨bt, 4, none⟩ = some (.slice J4 t1.f4.length J4c) ∧ w'.cell? ⟨bt, 5, none⟩ = some (.slice J5 t1.f5.length J5c) ∧ w'.cell? ⟨bf, 1, none⟩ = some (.int .i64 x.f1)) (ds := [6]) #[false, false, false, false, false, false, false] (by kernel_rfl) rfl rfl ⟨HP.out.cl 0 0 rfl rfl, HP.out.cl 0 1 rfl rfl, HP.out.cl 0 2 rfl rfl, HP.out.cl 0 3 rfl rfl, HP.out.cl 0 4 rfl rfl, HP.out.cl 0 5 rfl rfl, HP.out.cl 1 1 rfl rfl⟩ (fun hHeld => ?_)
   generalize W10.drew = W11 at HP HT HN hHeld ⊢
   refine pure_ (i := 1) (N := some 34) (v := ?_) (a' := ?_) (ob 7 2) rfl rfl (by kernel_rfl) (fun _ _ _ h => h) (Or.inl ⟨by rfl, ?_⟩) ?_ ?_
   rotate_left
   ·intro w'
    go_simp
    with_reducible rfl
   rotate_left
   ·simp only [Act.put, List.setIfInBounds_toArray, List.set_cons_zero, List.set_cons_succ, i64_w, i32_w]
    rfl
   refine take_ (i := 0) (N := some 33) (v := ?_) (a' := ?_) (ob 7 3) rfl rfl (by kernel_rfl) (fun _ _ _ h => h) (Or.inl ⟨by rfl, ?_⟩) hHeld ?_ ?_
   rotate_left
   ·rintro w' ⟨s0, s1, s2, s3, s4, s5, s6⟩
    go_simp
    with_reducible rfl
   rotate_left
   ·simp only [Act.put, List.setIfInBounds_toArray, List.set_cons_zero, List.set_cons_succ, i64_w, i32_w]
    rfl
   refine take_ (i := 2) (N := some 35) (v := ?_) (a' := ?_) (ob 7 7) rfl rfl (by kernel_rfl) (fun _ _ _ h => h) (Or.inl ⟨by rfl, ?_⟩) hHeld ?_ ?_
   rotate_left
   ·rintro w' ⟨s0, s1, s2, s3, s4, s5, s6⟩
    go_simp
    with_reducible rfl
   rotate_left
   ·simp only [Act.put, List.setIfInBounds_toArray, List.set_cons_zero, List.set_cons_succ, i64_w, i32_w]
    rfl
   refine one_ (i := 3) (N := some 36) (ob 7 15) rfl rfl (by kernel_rfl) (by decide) (fun K hK => ?_)
   refine goes_ Tryz.func31 (by kernel_rfl) rfl #[.int .i64 x.f1] (by rfl) rfl rfl (by simp only [List.map_toArray, List.map_cons, List.map_nil]; rfl) ?_
   with_reducible refine (kindName_calls x.f1 kn _ (HKN.out.below HP.out.B) QK.out).mono ?_
   rintro e y3 ⟨rfl, hb⟩
   refine ⟨_, rfl, ?_⟩
   have n0 := Aside0.mk (HP.out.below hb)
   have n1 := Aside0.mk (HT.out.below hb)
   have n2 := Aside0.mk (Kd.N_below HN.out hb)
   clear HP HT HN
   have HP := n0
   have HT := n1
   have HN := n2
   clear n0 n1 n2
   clear hb
   refine hK.out _ _ ⟨HP.out.cl 0 0 rfl rfl, HP.out.cl 0 1 rfl rfl, HP.out.cl 0 2 rfl rfl, HP.out.cl 0 3 rfl rfl, HP.out.cl 0 4 rfl rfl, HP.out.cl 0 5 rfl rfl, HP.out.cl 1 1 rfl rfl⟩ (fun hHeld => ?_)
   clear hK K
   refine norm_ (a' := ?_) ?_ ?_
   rotate_left
   ·show Act.put _ (some 36) _ = _
    simp only [Act.put, List.setIfInBounds_toArray, List.set_cons_zero, List.set_cons_succ, i64_w, i32_w]
    rfl
   refine one_ (i := 4) (N := some 37) (ob 7 31) rfl rfl (by kernel_rfl) (by decide) (fun K hK => ?_)
   refine goes_ Tryz.func30 (by kernel_rfl) rfl #[.string kn] (by rfl) rfl rfl (by simp only [List.map_toArray, List.map_cons, List.map_nil]; rfl) ?_
   with_reducible refine (str_calls kn _).mono ?_
   rintro e y4 ⟨rfl, hb⟩
   refine ⟨_, rfl, ?_⟩
   have n0 := Aside0.mk (HP.out.below hb)
   have n1 := Aside0.mk (HT.out.below hb)
   have n2 := Aside0.mk (Kd.N_below HN.out hb)
   clear HP HT HN
   have HP := n0
   have HT := n1
   have HN := n2
   clear n0 n1 n2
   clear hb
   refine hK.out _ _ ⟨HP.out.cl 0 0 rfl rfl, HP.out.cl 0 1 rfl rfl, HP.out.cl 0 2 rfl rfl, HP.out.cl 0 3 rfl rfl, HP.out.cl 0 4 rfl rfl, HP.out.cl 0 5 rfl rfl, HP.out.cl 1 1 rfl rfl⟩ (fun hHeld => ?_)
   clear hK K
   refine norm_ (a' := ?_) ?_ ?_
   rotate_left
   ·show Act.put _ (some 37) _ = _
    simp only [Act.put, List.setIfInBounds_toArray, List.set_cons_zero, List.set_cons_succ, i64_w, i32_w]
    rfl
   refine one_ (i := 5) (N := some 38) (ob 7 63) rfl rfl (by kernel_rfl) (by decide) (fun K hK => ?_)
   refine goes_ Tryz.func29 (by kernel_rfl) rfl #[.agg #[.int .i64 t1.f0, .bool t1.f1, .int .i64 t1.f2, .string t1.f3, .slice J4 t1.f4.length J4c, .slice J5 t1.f5.length J5c], .string ⟨#[107, 105, 110, 100]⟩, .agg #[.int .i64 3, .bool false, .int .i64 0, .string kn, .slice none 0 0, .slice none 0 0]] (by rfl) rfl rfl (by simp only [List.map_toArray, List.map_cons, List.map_nil]; rfl) ?_
   with_reducible refine (put_lit t1 J4 J4c J5 J5c ⟨#[107, 105, 110, 100]⟩ 3 false 0 kn t2 _ (fun k => bf < k ∧ k ≠ bt) HT.out Q2.out).mono ?_
   rintro e y5 ⟨G4, G4c, G5, G5c, rfl, hr, hb⟩
   refine ⟨_, rfl, ?_⟩
   have LTF := Aside0.mk (HP.out.lt 1 rfl)
   have LTT := Aside0.mk (HP.out.lt 0 rfl)
   have n3 := Aside0.mk (hr.mono (ok' := (fun k => bf < k ∧ k ≠ bt)) (fun k hk => hk.elim (fun h_ => h_) (fun h_ => ⟨by have := LTF.out; omega, by have := LTT.out; omega⟩)))
   clear LTF LTT hr HT
   have HT := n3
   clear n3
   have n0 := Aside0.mk (HP.out.below hb)
   have n1 := Aside0.mk (Kd.N_below HN.out hb)
   clear HP HN
   have HP := n0
   have HN := n1
   clear n0 n1
   clear hb
   refine hK.out _ _ ⟨HP.out.cl 0 0 rfl rfl, HP.out.cl 0 1 rfl rfl, HP.out.cl 0 2 rfl rfl, HP.out.cl 0 3 rfl rfl, HP.out.cl 0 4 rfl rfl, HP.out.cl 0 5 rfl rfl, HP.out.cl 1 1 rfl rfl⟩ (fun hHeld => ?_)
   clear hK K
   refine norm_ (a' := ?_) ?_ ?_
   rotate_left
   ·show Act.put _ (some 38) _ = _
    simp only [Act.put, List.setIfInBounds_toArray, List.set_cons_zero, List.set_cons_succ, i64_w, i32_w]
    rfl
   refine last_ (i := 6) (N := none) (ob 7 127) rfl rfl (by kernel_rfl) (by decide) (fun K hK => ?_)
   have yu0 : y5.cell? ⟨bt, 0, none⟩ = some (.int .i64 t1.f0) := HP.out.cl 0 0 rfl rfl
   have yu1 : y5.cell? ⟨bt, 1, none⟩ = some (.bool t1.f1) := HP.out.cl 0 1 rfl rfl
   have yu2 : y5.cell? ⟨bt, 2, none⟩ = some (.int .i64 t1.f2) := HP.out.cl 0 2 rfl rfl
   have yu3 : y5.cell? ⟨bt, 3, none⟩ = some (.string t1.f3) := HP.out.cl 0 3 rfl rfl
   have yu4 : y5.cell? ⟨bt, 4, none⟩ = some (.slice J4 t1.f4.length J4c) := HP.out.cl 0 4 rfl rfl
   have yu5 : y5.cell? ⟨bt, 5, none⟩ = some (.slice J5 t1.f5.length J5c) := HP.out.cl 0 5 rfl rfl
   have zu0 := HP.out.fz 0 0 rfl
   have zu1 := HP.out.fz 0 1 rfl
   have zu2 := HP.out.fz 0 2 rfl
   have zu3 := HP.out.fz 0 3 rfl
   have zu4 := HP.out.fz 0 4 rfl
   have zu5 := HP.out.fz 0 5 rfl
   refine skip_ (w1 := ?_) (by rfl) rfl ?_ ?_
   rotate_left
   ·go_simp
    rfl
   clear yu0 zu0 yu1 zu1 yu2 zu2 yu3 zu3 yu4 zu4 yu5 zu5
   have n0 := Aside0.mk (HP.out.six 0 rfl (.int .i64 t2.f0) (.bool t2.f1) (.int .i64 t2.f2) (.string t2.f3) (.slice G4 t2.f4.length G4c) (.slice G5 t2.f5.length G5c))
   have n1 := Aside0.mk (HT.out.six (g := bt) (fun k hk => hk.2) (.int .i64 t2.f0) (.bool t2.f1) (.int .i64 t2.f2) (.string t2.f3) (.slice G4 t2.f4.length G4c) (.slice G5 t2.f5.length G5c))
   have n2 := Aside0.mk (Kd.N_step HN.out (fun k hk hlt => six_same (g := bt) (k := k) (by have := hk.2; have := HGS.out; omega) hlt (.int .i64 t2.f0) (.bool t2.f1) (.int .i64 t2.f2) (.string t2.f3) (.slice G4 t2.f4.length G4c) (.slice G5 t2.f5.length G5c)))
   clear HP HT HN
   have HP := n0
   have HT := n1
   have HN := n2
   clear n0 n1 n2
   generalize ((((((y5.setCell ⟨bt, 0, none⟩ (.int .i64 t2.f0)).setCell ⟨bt, 1, none⟩ (.bool t2.f1)).setCell ⟨bt, 2, none⟩ (.int .i64 t2.f2)).setCell ⟨bt, 3, none⟩ (.string t2.f3)).setCell ⟨bt, 4, none⟩ (.slice G4 t2.f4.length G4c)).setCell ⟨bt, 5, none⟩ (.slice G5 t2.f5.length G5c)) = W12 at HP HT HN ⊢
   refine hK.out _ _ ?_
   clear hK K
   refine done_ (by kernel_rfl) ?_
   go_upto_region 10 with (fail)
   have hb := below_drew (Below.refl W12.heap.size W12)
   have n0 := Aside0.mk (HP.out.below hb)
   have n1 := Aside0.mk (HT.out.below hb)
   have n2 := Aside0.mk (Kd.N_below HN.out hb)
   clear HP HT HN
   have HP := n0
   have HT := n1
   have HN := n2
   clear n0 n1 n2
   clear hb
   refine start_ (n := 6) (S := fun w' => w'.cell? ⟨bt, 0, none⟩ = some (.int .i64 t2.f0) ∧ w'.cell? ⟨bt, 1, none⟩ = some (.bool t2.f1) ∧ w'.cell? ⟨bt, 2, none⟩ = some (.int .i64 t2.f2) ∧ w'.cell? ⟨bt, 3, none⟩ = some (.string t2.f3) ∧ w'.cell? ⟨bt, 4, none⟩ = some (.slice G4 t2.f4.length G4c) ∧ w'.cell? ⟨bt, 5, none⟩ = some (.slice G5 t2.f5.length G5c) ∧ w'.cell? ⟨bf, 2, none⟩ = some (.bool x.f2)) (ds := [5]) #[false, false, false, false, false, false] (by kernel_rfl) rfl rfl ⟨HP.out.cl 0 0 rfl rfl, HP.out.cl 0 1 rfl rfl, HP.out.cl 0 2 rfl rfl, HP.out.cl 0 3 rfl rfl, HP.out.cl 0 4 rfl rfl, HP.out.cl 0 5 rfl rfl, HP.out.cl 1 2 rfl rfl⟩ (fun hHeld => ?_)
   generalize W12.drew = W13 at HP HT HN hHeld ⊢
   refine pure_ (i := 1) (N := some 40) (v := ?_) (a' := ?_) (ob 6 2) rfl rfl (by kernel_rfl) (fun _ _ _ h => h) (Or.inl ⟨by rfl, ?_⟩) ?_ ?_
   rotate_left
   ·intro w'
    go_simp
    with_reducible rfl
   rotate_left
   ·simp only [Act.put, List.setIfInBounds_toArray, List.set_cons_zero, List.set_cons_succ, i64_w, i32_w]
    rfl
   refine take_ (i := 0) (N := some 39) (v := ?_) (a' := ?_) (ob 6 3) rfl rfl (by kernel_rfl) (fun _ _ _ h => h) (Or.inl ⟨by rfl, ?_⟩) hHeld ?_ ?_
   rotate_left
   ·rintro w' ⟨s0, s1, s2, s3, s4, s5, s6⟩
    go_simp
    with_reducible rfl
   rotate_left
   ·simp only [Act.put, List.setIfInBounds_toArray, List.set_cons_zero, List.set_cons_succ, i64_w, i32_w]
    rfl
   refine take_ (i := 2) (N := some 41) (v := ?_) (a' := ?_) (ob 6 7) rfl rfl (by kernel_rfl) (fun _ _ _ h => h) (Or.inl ⟨by rfl, ?_⟩) hHeld ?_ ?_
   rotate_left
   ·rintro w' ⟨s0, s1, s2, s3, s4, s5, s6⟩
    go_simp
    with_reducible rfl
   rotate_left
   ·simp only [Act.put, List.setIfInBounds_toArray, List.set_cons_zero, List.set_cons_succ, i64_w, i32_w]
    rfl
   refine one_ (i := 3) (N := some 42) (ob 6 15) rfl rfl (by kernel_rfl) (by decide) (fun K hK => ?_)
   refine goes_ Tryz.func32 (by kernel_rfl) rfl #[.bool x.f2] (by rfl) rfl rfl (by simp only [List.map_toArray, List.map_cons, List.map_nil]; rfl) ?_
   with_reducible refine (yes_calls x.f2 _).mono ?_
   rintro e y3 ⟨rfl, hb⟩
   refine ⟨_, rfl, ?_⟩
   have n0 := Aside0.mk (HP.out.below hb)
   have n1 := Aside0.mk (HT.out.below hb)
   have n2 := Aside0.mk (Kd.N_below HN.out hb)
   clear HP HT HN
   have HP := n0
   have HT := n1
   have HN := n2
   clear n0 n1 n2
   clear hb
   refine hK.out _ _ ⟨HP.out.cl 0 0 rfl rfl, HP.out.cl 0 1 rfl rfl, HP.out.cl 0 2 rfl rfl, HP.out.cl 0 3 rfl rfl, HP.out.cl 0 4 rfl rfl, HP.out.cl 0 5 rfl rfl, HP.out.cl 1 2 rfl rfl⟩ (fun hHeld => ?_)
   clear hK K
   refine norm_ (a' := ?_) ?_ ?_
   rotate_left
   ·show Act.put _ (some 42) _ = _
    simp only [Act.put, List.setIfInBounds_toArray, List.set_cons_zero, List.set_cons_succ, i64_w, i32_w]
    rfl
   refine one_ (i := 4) (N := some 43) (ob 6 31) rfl rfl (by kernel_rfl) (by decide) (fun K hK => ?_)
   refine goes_ Tryz.func29 (by kernel_rfl) rfl #[.agg #[.int .i64 t2.f0, .bool t2.f1, .int .i64 t2.f2, .string t2.f3, .slice G4 t2.f4.length G4c, .slice G5 t2.f5.length G5c], .string ⟨#[110, 101, 101, 100]⟩, .agg #[.int .i64 1, .bool x.f2, .int .i64 0, .string ⟨#[]⟩, .slice none 0 0, .slice none 0 0]] (by rfl) rfl rfl (by simp only [List.map_toArray, List.map_cons, List.map_nil]; rfl) ?_
   with_reducible refine (put_lit t2 G4 G4c G5 G5c ⟨#[110, 101, 101, 100]⟩ 1 x.f2 0 ⟨#[]⟩ t3 _ (fun k => bf < k ∧ k ≠ bt) HT.out Q3.out).mono ?_
   rintro e y4 ⟨K4, K4c, K5, K5c, rfl, hr, hb⟩
   refine ⟨_, rfl, ?_⟩
   have LTF := Aside0.mk (HP.out.lt 1 rfl)
   have LTT := Aside0.mk (HP.out.lt 0 rfl)
   have n3 := Aside0.mk (hr.mono (ok' := (fun k => bf < k ∧ k ≠ bt)) (fun k hk => hk.elim (fun h_ => h_) (fun h_ => ⟨by have := LTF.out; omega, by have := LTT.out; omega⟩)))
   clear LTF LTT hr HT
   have HT := n3
   clear n3
   have n0 := Aside0.mk (HP.out.below hb)
   have n1 := Aside0.mk (Kd.N_below HN.out hb)
   clear HP HN
   have HP := n0
   have HN := n1
   clear n0 n1
   clear hb
   refine hK.out _ _ ⟨HP.out.cl 0 0 rfl rfl, HP.out.cl 0 1 rfl rfl, HP.out.cl 0 2 rfl rfl, HP.out.cl 0 3 rfl rfl, HP.out.cl 0 4 rfl rfl, HP.out.cl 0 5 rfl rfl, HP.out.cl 1 2 rfl rfl⟩ (fun hHeld => ?_)
   clear hK K
   refine norm_ (a' := ?_) ?_ ?_
   rotate_left
   ·show Act.put _ (some 43) _ = _
    simp only [Act.put, List.setIfInBounds_toArray, List.set_cons_zero, List.set_cons_succ, i64_w, i32_w]
    rfl
   refine last_ (i := 5) (N := none) (ob 6 63) rfl rfl (by kernel_rfl) (by decide) (fun K hK => ?_)
   have yu0 : y4.cell? ⟨bt, 0, none⟩ = some (.int .i64 t2.f0) := HP.out.cl 0 0 rfl rfl
   have yu1 : y4.cell? ⟨bt, 1, none⟩ = some (.bool t2.f1) := HP.out.cl 0 1 rfl rfl
   have yu2 : y4.cell? ⟨bt, 2, none⟩ = some (.int .i64 t2.f2) := HP.out.cl 0 2 rfl rfl
   have yu3 : y4.cell? ⟨bt, 3, none⟩ = some (.string t2.f3) := HP.out.cl 0 3 rfl rfl
   have yu4 : y4.cell? ⟨bt, 4, none⟩ = some (.slice G4 t2.f4.length G4c) := HP.out.cl 0 4 rfl rfl
   have yu5 : y4.cell? ⟨bt, 5, none⟩ = some (.slice G5 t2.f5.length G5c) := HP.out.cl 0 5 rfl rfl
   have zu0 := HP.out.fz 0 0 rfl
   have zu1 := HP.out.fz 0 1 rfl
   have zu2 := HP.out.fz 0 2 rfl
   have zu3 := HP.out.fz 0 3 rfl
   have zu4 := HP.out.fz 0 4 rfl
   have zu5 := HP.out.fz 0 5 rfl
   refine skip_ (w1 := ?_) (by rfl) rfl ?_ ?_
   rotate_left
   ·go_simp
    rfl
   clear yu0 zu0 yu1 zu1 yu2 zu2 yu3 zu3 yu4 zu4 yu5 zu5
   have n0 := Aside0.mk (HP.out.six 0 rfl (.int .i64 t3.f0) (.bool t3.f1) (.int .i64 t3.f2) (.string t3.f3) (.slice K4 t3.f4.length K4c) (.slice K5 t3.f5.length K5c))
   have n1 := Aside0.mk (HT.out.six (g := bt) (fun k hk => hk.2) (.int .i64 t3.f0) (.bool t3.f1) (.int .i64 t3.f2) (.string t3.f3) (.slice K4 t3.f4.length K4c) (.slice K5 t3.f5.length K5c))
   have n2 := Aside0.mk (Kd.N_step HN.out (fun k hk hlt => six_same (g := bt) (k := k) (by have := hk.2; have := HGS.out; omega) hlt (.int .i64 t3.f0) (.bool t3.f1) (.int .i64 t3.f2) (.string t3.f3) (.slice K4 t3.f4.length K4c) (.slice K5 t3.f5.length K5c)))
   clear HP HT HN
   have HP := n0
   have HT := n1
   have HN := n2
   clear n0 n1 n2
   generalize ((((((y4.setCell ⟨bt, 0, none⟩ (.int .i64 t3.f0)).setCell ⟨bt, 1, none⟩ (.bool t3.f1)).setCell ⟨bt, 2, none⟩ (.int .i64 t3.f2)).setCell ⟨bt, 3, none⟩ (.string t3.f3)).setCell ⟨bt, 4, none⟩ (.slice K4 t3.f4.length K4c)).setCell ⟨bt, 5, none⟩ (.slice K5 t3.f5.length K5c)) = W14 at HP HT HN ⊢
   refine hK.out _ _ ?_
   clear hK K
   refine done_ (by kernel_rfl) ?_
   have yf3 : W14.cell? ⟨bf, 3, none⟩ = some (.bool x.f3) := HP.out.cl 1 3 rfl rfl
   go_upto_if 45 with (fail)
   clear yf3
   go_cut [] (fun wc => ∃ (tz : S25) (Z4 : Option Addr) (Z4c : Nat) (Z5 : Option Addr) (Z5c : Nat), Aside0 (fOne x tz = some t5) ∧ Aside0 (RdF wc (fun k => bf < k ∧ k ≠ bt) tz Z4 Z4c Z5 Z5c) ∧ Aside0 (Kd.N k25 25 wc nb (fun k => b5 < k ∧ k < s0) (.slice Av acc.length cv) acc) ∧ Aside0 (Bs w wc [(bt, #[.int .i64 tz.f0, .bool tz.f1, .int .i64 tz.f2, .string tz.f3, .slice Z4 tz.f4.length Z4c, .slice Z5 tz.f5.length Z5c], 25), (bf, #[.string x.f0, .int .i64 x.f1, .bool x.f2, .bool x.f3, .int .i64 x.f4, .int .i64 x.f5, .slice A6 x.f6.length c6, .int .i64 x.f7.f0, .bool x.f7.f1, .int .i64 x.f7.f2, .string x.f7.f3, .slice A11 x.f7.f4.length c11, .slice A12 x.f7.f5.length c12], 44), (b5, #[.int .i64 5, .bool false, .int .i64 0, .string ⟨#[]⟩, .slice Av acc.length cv, .slice none 0 0], 25), (br, #[.int .i64 0, .bool false, .int .i64 0, .string ⟨#[]⟩, .slice none 0 0, .slice none 0 0], 25), (bs, #[.slice (some ad) l.length c, .bool st], 41)]))
   case first =>
    have h4 := Q4.out
    unfold fBnd at h4
    cases hbd : x.f3 with
    | false =>
     rw [hbd, if_neg (by decide)] at h4
     injection h4 with h4
     subst h4
     have HBD := Aside0.mk hbd
     clear hbd
     go_wp2_with fail
     go_meet
     case rel => exact ⟨t3, K4, K4c, K5, K5c, Q5, HT, HN, HP⟩
    | true =>
     rw [hbd, if_pos rfl] at h4
     obtain ⟨ta, ha, h4⟩ := Option.bind_eq_some_iff.1 h4
     have QA := Aside0.mk ha
     have QB := Aside0.mk h4
     clear ha h4
     have HBD := Aside0.mk hbd
     clear hbd
     go_upto_region 12 with (fail)
     have hb := below_drew (Below.refl W14.heap.size W14)
     have n0 := Aside0.mk (HP.out.below hb)
     have n1 := Aside0.mk (HT.out.below hb)
     have n2 := Aside0.mk (Kd.N_below HN.out hb)
     clear HP HT HN
     have HP := n0
     have HT := n1
     have HN := n2
     clear n0 n1 n2
     clear hb
     refine start_ (n := 10) (S := fun w' => w'.cell? ⟨bt, 0, none⟩ = some (.int .i64 t3.f0) ∧ w'.cell? ⟨bt, 1, none⟩ = some (.bool t3.f1) ∧ w'.cell? ⟨bt, 2, none⟩ = some (.int .i64 t3.f2) ∧ w'.cell? ⟨bt, 3, none⟩ = some (.string t3.f3) ∧ w'.cell? ⟨bt, 4, none⟩ = some (.slice K4 t3.f4.length K4c) ∧ w'.cell? ⟨bt, 5, none⟩ = some (.slice K5 t3.f5.length K5c) ∧ w'.cell? ⟨bf, 4, none⟩ = some (.int .i64 x.f4) ∧ w'.cell? ⟨bf, 5, none⟩ = some (.int .i64 x.f5)) (ds := [9]) #[false, false, false, false, false, false, false, false, false, false] (by kernel_rfl) rfl rfl ⟨HP.out.cl 0 0 rfl rfl, HP.out.cl 0 1 rfl rfl, HP.out.cl 0 2 rfl rfl, HP.out.cl 0 3 rfl rfl, HP.out.cl 0 4 rfl rfl, HP.out.cl 0 5 rfl rfl, HP.out.cl 1 4 rfl rfl, HP.out.cl 1 5 rfl rfl⟩ (fun hHeld => ?_)
     generalize W14.drew = W15 at HP HT HN hHeld ⊢
     refine pure_ (i := 1) (N := some 47) (v := ?_) (a' := ?_) (ob 10 2) rfl rfl (by kernel_rfl) (fun _ _ _ h => h) (Or.inl ⟨by rfl, ?_⟩) ?_ ?_
     rotate_left
     ·intro w'
      go_simp
      with_reducible rfl
     rotate_left
     ·simp only [Act.put, List.setIfInBounds_toArray, List.set_cons_zero, List.set_cons_succ, i64_w, i32_w]
      rfl
     refine pure_ (i := 5) (N := some 51) (v := ?_) (a' := ?_) (ob 10 34) rfl rfl (by kernel_rfl) (fun _ _ _ h => h) (Or.inl ⟨by rfl, ?_⟩) ?_ ?_
     rotate_left
     ·intro w'
      go_simp
      with_reducible rfl
     rotate_left
     ·simp only [Act.put, List.setIfInBounds_toArray, List.set_cons_zero, List.set_cons_succ, i64_w, i32_w]
      rfl
     refine take_ (i := 0) (N := some 46) (v := ?_) (a' := ?_) (ob 10 35) rfl rfl (by kernel_rfl) (fun _ _ _ h => h) (Or.inl ⟨by rfl, ?_⟩) hHeld ?_ ?_
     rotate_left
     ·rintro w' ⟨s0, s1, s2, s3, s4, s5, s6, s7⟩
      go_simp
      with_reducible rfl
     rotate_left
     ·simp only [Act.put, List.setIfInBounds_toArray, List.set_cons_zero, List.set_cons_succ, i64_w, i32_w]
      rfl
     refine take_ (i := 2) (N := some 48) (v := ?_) (a' := ?_) (ob 10 39) rfl rfl (by kernel_rfl) (fun _ _ _ h => h) (Or.inl ⟨by rfl, ?_⟩) hHeld ?_ ?_
     rotate_left
     ·rintro w' ⟨s0, s1, s2, s3, s4, s5, s6, s7⟩
      go_simp
      with_reducible rfl
     rotate_left
     ·simp only [Act.put, List.setIfInBounds_toArray, List.set_cons_zero, List.set_cons_succ, i64_w, i32_w]
      rfl
     refine take_ (i := 6) (N := some 52) (v := ?_) (a' := ?_) (ob 10 103) rfl rfl (by kernel_rfl) (fun _ _ _ h => h) (Or.inl ⟨by rfl, ?_⟩) hHeld ?_ ?_
     rotate_left
     ·rintro w' ⟨s0, s1, s2, s3, s4, s5, s6, s7⟩
      go_simp
      with_reducible rfl
     rotate_left
     ·simp only [Act.put, List.setIfInBounds_toArray, List.set_cons_zero, List.set_cons_succ, i64_w, i32_w]
      rfl
     refine one_ (i := 3) (N := some 49) (ob 10 111) rfl rfl (by kernel_rfl) (by decide) (fun K hK => ?_)
     refine goes_ Tryz.func33 (by kernel_rfl) rfl #[.int .i64 x.f5] (by rfl) rfl rfl (by simp only [List.map_toArray, List.map_cons, List.map_nil]; rfl) ?_
     with_reducible refine (whole_calls x.f5 _).mono ?_
     rintro e y3 ⟨rfl, hb⟩
     refine ⟨_, rfl, ?_⟩
     have n0 := Aside0.mk (HP.out.below hb)
     have n1 := Aside0.mk (HT.out.below hb)
     have n2 := Aside0.mk (Kd.N_below HN.out hb)
     clear HP HT HN
     have HP := n0
     have HT := n1
     have HN := n2
     clear n0 n1 n2
     clear hb
     refine hK.out _ _ ⟨HP.out.cl 0 0 rfl rfl, HP.out.cl 0 1 rfl rfl, HP.out.cl 0 2 rfl rfl, HP.out.cl 0 3 rfl rfl, HP.out.cl 0 4 rfl rfl, HP.out.cl 0 5 rfl rfl, HP.out.cl 1 4 rfl rfl, HP.out.cl 1 5 rfl rfl⟩ (fun hHeld => ?_)
     clear hK K
     refine norm_ (a' := ?_) ?_ ?_
     rotate_left
     ·show Act.put _ (some 49) _ = _
      simp only [Act.put, List.setIfInBounds_toArray, List.set_cons_zero, List.set_cons_succ, i64_w, i32_w]
      rfl
     refine one_ (i := 4) (N := some 50) (ob 10 127) rfl rfl (by kernel_rfl) (by decide) (fun K hK => ?_)
     refine goes_ Tryz.func29 (by kernel_rfl) rfl #[.agg #[.int .i64 t3.f0, .bool t3.f1, .int .i64 t3.f2, .string t3.f3, .slice K4 t3.f4.length K4c, .slice K5 t3.f5.length K5c], .string ⟨#[109, 97, 120]⟩, .agg #[.int .i64 2, .bool false, .int .i64 x.f5, .string ⟨#[]⟩, .slice none 0 0, .slice none 0 0]] (by rfl) rfl rfl (by simp only [List.map_toArray, List.map_cons, List.map_nil]; rfl) ?_
     with_reducible refine (put_lit t3 K4 K4c K5 K5c ⟨#[109, 97, 120]⟩ 2 false x.f5 ⟨#[]⟩ ta _ (fun k => bf < k ∧ k ≠ bt) HT.out QA.out).mono ?_
     rintro e y4 ⟨M4, M4c, M5, M5c, rfl, hr, hb⟩
     refine ⟨_, rfl, ?_⟩
     have LTF := Aside0.mk (HP.out.lt 1 rfl)
     have LTT := Aside0.mk (HP.out.lt 0 rfl)
     have n3 := Aside0.mk (hr.mono (ok' := (fun k => bf < k ∧ k ≠ bt)) (fun k hk => hk.elim (fun h_ => h_) (fun h_ => ⟨by have := LTF.out; omega, by have := LTT.out; omega⟩)))
     clear LTF LTT hr HT
     have HT := n3
     clear n3
     have n0 := Aside0.mk (HP.out.below hb)
     have n1 := Aside0.mk (Kd.N_below HN.out hb)
     clear HP HN
     have HP := n0
     have HN := n1
     clear n0 n1
     clear hb
     refine hK.out _ _ ⟨HP.out.cl 0 0 rfl rfl, HP.out.cl 0 1 rfl rfl, HP.out.cl 0 2 rfl rfl, HP.out.cl 0 3 rfl rfl, HP.out.cl 0 4 rfl rfl, HP.out.cl 0 5 rfl rfl, HP.out.cl 1 4 rfl rfl, HP.out.cl 1 5 rfl rfl⟩ (fun hHeld => ?_)
     clear hK K
     refine norm_ (a' := ?_) ?_ ?_
     rotate_left
     ·show Act.put _ (some 50) _ = _
      simp only [Act.put, List.setIfInBounds_toArray, List.set_cons_zero, List.set_cons_succ, i64_w, i32_w]
      rfl
     refine one_ (i := 7) (N := some 53) (ob 10 255) rfl rfl (by kernel_rfl) (by decide) (fun K hK => ?_)
     refine goes_ Tryz.func33 (by kernel_rfl) rfl #[.int .i64 x.f4] (by rfl) rfl rfl (by simp only [List.map_toArray, List.map_cons, List.map_nil]; rfl) ?_
     with_reducible refine (whole_calls x.f4 _).mono ?_
     rintro e y7 ⟨rfl, hb⟩
     refine ⟨_, rfl, ?_⟩
     have n0 := Aside0.mk (HP.out.below hb)
     have n1 := Aside0.mk (HT.out.below hb)
     have n2 := Aside0.mk (Kd.N_below HN.out hb)
     clear HP HT HN
     have HP := n0
     have HT := n1
     have HN := n2
     clear n0 n1 n2
     clear hb
     refine hK.out _ _ ⟨HP.out.cl 0 0 rfl rfl, HP.out.cl 0 1 rfl rfl, HP.out.cl 0 2 rfl rfl, HP.out.cl 0 3 rfl rfl, HP.out.cl 0 4 rfl rfl, HP.out.cl 0 5 rfl rfl, HP.out.cl 1 4 rfl rfl, HP.out.cl 1 5 rfl rfl⟩ (fun hHeld => ?_)
     clear hK K
     refine norm_ (a' := ?_) ?_ ?_
     rotate_left
     ·show Act.put _ (some 53) _ = _
      simp only [Act.put, List.setIfInBounds_toArray, List.set_cons_zero, List.set_cons_succ, i64_w, i32_w]
      rfl
     refine one_ (i := 8) (N := some 54) (ob 10 511) rfl rfl (by kernel_rfl) (by decide) (fun K hK => ?_)
     refine goes_ Tryz.func29 (by kernel_rfl) rfl #[.agg #[.int .i64 ta.f0, .bool ta.f1, .int .i64 ta.f2, .string ta.f3, .slice M4 ta.f4.length M4c, .slice M5 ta.f5.length M5c], .string ⟨#[109, 105, 110]⟩, .agg #[.int .i64 2, .bool false, .int .i64 x.f4, .string ⟨#[]⟩, .slice none 0 0, .slice none 0 0]] (by rfl) rfl rfl (by simp only [List.map_toArray, List.map_cons, List.map_nil]; rfl) ?_
     with_reducible refine (put_lit ta M4 M4c M5 M5c ⟨#[109, 105, 110]⟩ 2 false x.f4 ⟨#[]⟩ t4 _ (fun k => bf < k ∧ k ≠ bt) HT.out QB.out).mono ?_
     rintro e y8 ⟨U4, U4c, U5, U5c, rfl, hr, hb⟩
     refine ⟨_, rfl, ?_⟩
     have LTF := Aside0.mk (HP.out.lt 1 rfl)
     have LTT := Aside0.mk (HP.out.lt 0 rfl)
     have n3 := Aside0.mk (hr.mono (ok' := (fun k => bf < k ∧ k ≠ bt)) (fun k hk => hk.elim (fun h_ => h_) (fun h_ => ⟨by have := LTF.out; omega, by have := LTT.out; omega⟩)))
     clear LTF LTT hr HT
     have HT := n3
     clear n3
     have n0 := Aside0.mk (HP.out.below hb)
     have n1 := Aside0.mk (Kd.N_below HN.out hb)
     clear HP HN
     have HP := n0
     have HN := n1
     clear n0 n1
     clear hb
     refine hK.out _ _ ⟨HP.out.cl 0 0 rfl rfl, HP.out.cl 0 1 rfl rfl, HP.out.cl 0 2 rfl rfl, HP.out.cl 0 3 rfl rfl, HP.out.cl 0 4 rfl rfl, HP.out.cl 0 5 rfl rfl, HP.out.cl 1 4 rfl rfl, HP.out.cl 1 5 rfl rfl⟩ (fun hHeld => ?_)
     clear hK K
     refine norm_ (a' := ?_) ?_ ?_
     rotate_left
     ·show Act.put _ (some 54) _ = _
      simp only [Act.put, List.setIfInBounds_toArray, List.set_cons_zero, List.set_cons_succ, i64_w, i32_w]
      rfl
     refine last_ (i := 9) (N := none) (ob 10 1023) rfl rfl (by kernel_rfl) (by decide) (fun K hK => ?_)
     have yu0 : y8.cell? ⟨bt, 0, none⟩ = some (.int .i64 t3.f0) := HP.out.cl 0 0 rfl rfl
     have yu1 : y8.cell? ⟨bt, 1, none⟩ = some (.bool t3.f1) := HP.out.cl 0 1 rfl rfl
     have yu2 : y8.cell? ⟨bt, 2, none⟩ = some (.int .i64 t3.f2) := HP.out.cl 0 2 rfl rfl
     have yu3 : y8.cell? ⟨bt, 3, none⟩ = some (.string t3.f3) := HP.out.cl 0 3 rfl rfl
     have yu4 : y8.cell? ⟨bt, 4, none⟩ = some (.slice K4 t3.f4.length K4c) := HP.out.cl 0 4 rfl rfl
     have yu5 : y8.cell? ⟨bt, 5, none⟩ = some (.slice K5 t3.f5.length K5c) := HP.out.cl 0 5 rfl rfl
     have zu0 := HP.out.fz 0 0 rfl
     have zu1 := HP.out.fz 0 1 rfl
     have zu2 := HP.out.fz 0 2 rfl
     have zu3 := HP.out.fz 0 3 rfl
     have zu4 := HP.out.fz 0 4 rfl
     have zu5 := HP.out.fz 0 5 rfl
     refine skip_ (w1 := ?_) (by rfl) rfl ?_ ?_
     rotate_left
     ·go_simp
      rfl
     clear yu0 zu0 yu1 zu1 yu2 zu2 yu3 zu3 yu4 zu4 yu5 zu5
     have n0 := Aside0.mk (HP.out.six 0 rfl (.int .i64 t4.f0) (.bool t4.f1) (.int .i64 t4.f2) (.string t4.f3) (.slice U4 t4.f4.length U4c) (.slice U5 t4.f5.length U5c))
     have n1 := Aside0.mk (HT.out.six (g := bt) (fun k hk => hk.2) (.int .i64 t4.f0) (.bool t4.f1) (.int .i64 t4.f2) (.string t4.f3) (.slice U4 t4.f4.length U4c) (.slice U5 t4.f5.length U5c))
     have n2 := Aside0.mk (Kd.N_step HN.out (fun k hk hlt => six_same (g := bt) (k := k) (by have := hk.2; have := HGS.out; omega) hlt (.int .i64 t4.f0) (.bool t4.f1) (.int .i64 t4.f2) (.string t4.f3) (.slice U4 t4.f4.length U4c) (.slice U5 t4.f5.length U5c)))
     clear HP HT HN
     have HP := n0
     have HT := n1
     have HN := n2
     clear n0 n1 n2
     generalize ((((((y8.setCell ⟨bt, 0, none⟩ (.int .i64 t4.f0)).setCell ⟨bt, 1, none⟩ (.bool t4.f1)).setCell ⟨bt, 2, none⟩ (.int .i64 t4.f2)).setCell ⟨bt, 3, none⟩ (.string t4.f3)).setCell ⟨bt, 4, none⟩ (.slice U4 t4.f4.length U4c)).setCell ⟨bt, 5, none⟩ (.slice U5 t4.f5.length U5c)) = W16 at HP HT HN ⊢
     refine hK.out _ _ ?_
     clear hK K
     refine done_ (by kernel_rfl) ?_
     go_wp2_with fail
     go_meet
     case rel => exact ⟨t4, U4, U4c, U5, U5c, Q5, HT, HN, HP⟩
   case rest =>
    clear HT HN HP Q4 Q5
    obtain ⟨tz, Z4, Z4c, Z5, Z5c, QO, HT, HN, HP⟩ := hcut
    obtain ⟨b3, hb3⟩ : ∃ b, b = decide (0 < x.f6.length) := ⟨_, rfl⟩
    have e3a : decide ((x.f6.length : Int) > 0) = b3 := by rw [hb3]; exact decide_eq_decide.2 (by omega)
    have e3b : decide ((0 : Int) < (x.f6.length : Int)) = b3 := by rw [hb3]; exact decide_eq_decide.2 (by omega)
    have e3c : decide (0 < x.f6.length) = b3 := hb3.symm
    have HB3 := Aside0.mk hb3
    clear hb3
    have yf6 : wc.cell? ⟨bf, 6, none⟩ = some (.slice A6 x.f6.length c6) := HP.out.cl 1 6 rfl rfl
    go_upto_if 58 with (fail)
    clear yf6 e3a e3b e3c
    go_cut [] (fun wc => ∃ (tz : S25) (Z4 : Option Addr) (Z4c : Nat) (Z5 : Option Addr) (Z5c : Nat), Aside0 (fDef k x tz = some tt) ∧ Aside0 (RdF wc (fun k => bf < k ∧ k ≠ bt) tz Z4 Z4c Z5 Z5c) ∧ Aside0 (Kd.N k25 25 wc nb (fun k => b5 < k ∧ k < s0) (.slice Av acc.length cv) acc) ∧ Aside0 (Bs w wc [(bt, #[.int .i64 tz.f0, .bool tz.f1, .int .i64 tz.f2, .string tz.f3, .slice Z4 tz.f4.length Z4c, .slice Z5 tz.f5.length Z5c], 25), (bf, #[.string x.f0, .int .i64 x.f1, .bool x.f2, .bool x.f3, .int .i64 x.f4, .int .i64 x.f5, .slice A6 x.f6.length c6, .int .i64 x.f7.f0, .bool x.f7.f1, .int .i64 x.f7.f2, .string x.f7.f3, .slice A11 x.f7.f4.length c11, .slice A12 x.f7.f5.length c12], 44), (b5, #[.int .i64 5, .bool false, .int .i64 0, .string ⟨#[]⟩, .slice Av acc.length cv, .slice none 0 0], 25), (br, #[.int .i64 0, .bool false, .int .i64 0, .string ⟨#[]⟩, .slice none 0 0, .slice none 0 0], 25), (bs, #[.slice (some ad) l.length c, .bool st], 41)]))
    case first =>
     have h5 := QO.out
     clear QO
     unfold fOne at h5
     by_cases c3 : x.f6.length = 0
     case pos =>
      rw [if_pos c3] at h5
      injection h5 with h5
      subst h5
      have hb3 := HB3.out
      rw [decide_eq_false (by omega)] at hb3
      subst hb3
      replace c3 := Aside0.mk c3
      go_wp2_with fail
      go_meet
      case rel => exact ⟨tz, Z4, Z4c, Z5, Z5c, Q6, HT, HN, HP⟩
     rw [if_neg c3] at h5
     have hb3 := HB3.out
     rw [decide_eq_true (by omega)] at hb3
     subst hb3
     by_cases c4 : x.f6.length ≤ 2000000
     case neg => rw [if_neg c4] at h5; cases h5
     rw [if_pos c4] at h5
     have QL := Aside0.mk h5
     have HMX6 := Aside0.mk c4
     clear h5 c4 c3
     have yf6 : wc.cell? ⟨bf, 6, none⟩ = some (.slice A6 x.f6.length c6) := HP.out.cl 1 6 rfl rfl
     go_upto_region 15 with (((with_reducible refine gate_dst (N := 9) rfl ?_); refine box_event ?hg (N := 9) ?hd (cs := #[.int .i64 0, .bool false, .int .i64 0, .string ⟨#[]⟩, .slice none 0 0, .slice none 0 0]) (t := 25) ?hr ?_; (case hd => rfl); (case hg => rfl); (case hr => first | (go_simp; done) | (go_simp; rfl)); intro b9 hg_ W17 hbox hb; have n0 := Aside0.mk (HP.out.new hg_ hbox hb); have n1 := Aside0.mk (Kd.N_below HN.out hb); have n2 := Aside0.mk (HT.out.bound.below hb); have n3 := Aside0.mk ((show _ = b9 from hg_.symm)); have n4 := Aside0.mk ((show s0 ≤ b9 by have h_ := HP.out.lt 0 rfl; have := HGS.out; omega)); clear HP HN HT; have HP := n0; have HN := n1; have HT := n2; have HGT := n3; have HG9 := n4; clear n0 n1 n2 n3 n4; clear hg_ hbox hb; have yz0 : W17.cell? ⟨b9, 0, none⟩ = some (.int .i64 0) := HP.out.cl 0 0 rfl rfl; have yz1 : W17.cell? ⟨b9, 1, none⟩ = some (.bool false) := HP.out.cl 0 1 rfl rfl; have yz2 : W17.cell? ⟨b9, 2, none⟩ = some (.int .i64 0) := HP.out.cl 0 2 rfl rfl; have yz3 : W17.cell? ⟨b9, 3, none⟩ = some (.string ⟨#[]⟩) := HP.out.cl 0 3 rfl rfl; have yz4 : W17.cell? ⟨b9, 4, none⟩ = some (.slice none 0 0) := HP.out.cl 0 4 rfl rfl; have yz5 : W17.cell? ⟨b9, 5, none⟩ = some (.slice none 0 0) := HP.out.cl 0 5 rfl rfl; have zz0 := HP.out.fz 0 0 rfl; have zz1 := HP.out.fz 0 1 rfl; have zz2 := HP.out.fz 0 2 rfl; have zz3 := HP.out.fz 0 3 rfl; have zz4 := HP.out.fz 0 4 rfl; have zz5 := HP.out.fz 0 5 rfl))
     have n0 := Aside0.mk (HP.out.six 0 rfl (.int .i64 5) (.bool false) (.int .i64 0) (.string ⟨#[]⟩) (.slice none 0 0) (.slice none 0 0))
     have n1 := Aside0.mk ((HT.out.six (g := b9) (fun k hk => by have := hk.2; have := HGT.out; omega) (.int .i64 5) (.bool false) (.int .i64 0) (.string ⟨#[]⟩) (.slice none 0 0) (.slice none 0 0)).mono (ok' := (fun k => (bf < k ∧ k ≠ bt) ∧ k < b9)) (fun k hk => ⟨hk.1, by have := hk.2; have := HGT.out; omega⟩))
     have n2 := Aside0.mk (Kd.N_step HN.out (fun k hk hlt => six_same (g := b9) (k := k) (by have := hk.2; have := HG9.out; omega) hlt (.int .i64 5) (.bool false) (.int .i64 0) (.string ⟨#[]⟩) (.slice none 0 0) (.slice none 0 0)))
     clear HP HT HN
     have HP := n0
     have HT := n1
     have HN := n2
     clear n0 n1 n2
     clear HGT yf6 yz0 zz0 yz1 zz1 yz2 zz2 yz3 zz3 yz4 zz4 yz5 zz5
     generalize ((((((W17.setCell ⟨b9, 0, none⟩ (.int .i64 5)).setCell ⟨b9, 1, none⟩ (.bool false)).setCell ⟨b9, 2, none⟩ (.int .i64 0)).setCell ⟨b9, 3, none⟩ (.string ⟨#[]⟩)).setCell ⟨b9, 4, none⟩ (.slice none 0 0)).setCell ⟨b9, 5, none⟩ (.slice none 0 0)) = W18 at HP HT HN ⊢
     have yf6 : W18.cell? ⟨bf, 6, none⟩ = some (.slice A6 x.f6.length c6) := HP.out.cl 2 6 rfl rfl
     have LB9 := Aside0.mk (HP.out.lt 0 rfl)
     have LBT := Aside0.mk (show bt < b9 from HP.out.nd 0 1 _ _ (by omega) rfl rfl)
     have HO := Aside0.mk (Kd.N_nil k25 25 W18 W18.heap.size (fun k => b9 < k))
     have HO0 := HO
     obtain ⟨no, hno⟩ : ∃ no, no = W18.heap.size := ⟨_, rfl⟩
     clear HO0
     rw [← hno] at HO LB9
     have HS5 := Aside0.mk (show no ≤ W18.heap.size by omega)
     clear hno
     go_wp2_with fail
     go_loopg [63] x.f6.length (fun kq v_ w' => ∃ (mm : Int) (m : Nat) (vO : Value), v_ = .int .i64 mm ∧ Aside0 (mm = (m : Int)) ∧ Aside0 (m + kq = x.f6.length) ∧ Aside0 (no ≤ w'.heap.size) ∧ Aside0 (Kd.N k25 25 w' no (fun k => b9 < k) vO ((x.f6.take m).map vS)) ∧ Aside0 (RdF w' (fun k => (bf < k ∧ k ≠ bt) ∧ k < b9) tz Z4 Z4c Z5 Z5c) ∧ Aside0 (Kd.N k25 25 w' nb (fun k => b5 < k ∧ k < s0) (.slice Av acc.length cv) acc) ∧ Aside0 (Bs w w' [(b9, #[.int .i64 5, .bool false, .int .i64 0, .string ⟨#[]⟩, vO, .slice none 0 0], 25), (bt, #[.int .i64 tz.f0, .bool tz.f1, .int .i64 tz.f2, .string tz.f3, .slice Z4 tz.f4.length Z4c, .slice Z5 tz.f5.length Z5c], 25), (bf, #[.string x.f0, .int .i64 x.f1, .bool x.f2, .bool x.f3, .int .i64 x.f4, .int .i64 x.f5, .slice A6 x.f6.length c6, .int .i64 x.f7.f0, .bool x.f7.f1, .int .i64 x.f7.f2, .string x.f7.f3, .slice A11 x.f7.f4.length c11, .slice A12 x.f7.f5.length c12], 44), (b5, #[.int .i64 5, .bool false, .int .i64 0, .string ⟨#[]⟩, .slice Av acc.length cv, .slice none 0 0], 25), (br, #[.int .i64 0, .bool false, .int .i64 0, .string ⟨#[]⟩, .slice none 0 0, .slice none 0 0], 25), (bs, #[.slice (some ad) l.length c, .bool st], 41)]))
     case atStart => exact ⟨0, 0, .slice none 0 0, rfl, ⟨rfl⟩, ⟨by omega⟩, HS5, HO, HT, HN, HP⟩
     case round =>
      clear HP HO HT HN HS5 yf6
      obtain ⟨mm, m, vO, rfl, HIIm, HIm, HS5, HO, HT, HN, HP⟩ := hrel
      cases gk with
      | zero =>
       have e0 : decide (mm < (x.f6.length : Int)) = false := decide_eq_false (by have := HIIm.out; have := HIm.out; omega)
       have hO := HO.out
       rw [List.take_of_length_le (by have := HIm.out; omega)] at hO
       obtain ⟨Ao, co, hvo⟩ := Kd.N_slice hO
       subst hvo
       have HFO := Aside0.mk (Kd.F_mono (Kd.N_F hO) (ok' := (fun k => bf < k ∧ k ≠ bt)) (fun k hk => ⟨by have := LBT.out; have := HBF.out; omega, by have := LBT.out; omega⟩))
       have HCO := Aside0.mk (Kd.N_reads' hO).2.1
       clear hO HO
       generalize hos : x.f6.map vS = os at HFO HCO QL HP ⊢
       have HT3 := Aside0.mk (HT.out.mono (ok' := (fun k => bf < k ∧ k ≠ bt)) (fun k hk => hk.1))
       have yt0 : wr.cell? ⟨bt, 0, none⟩ = some (.int .i64 tz.f0) := HP.out.cl 1 0 rfl rfl
       have yt1 : wr.cell? ⟨bt, 1, none⟩ = some (.bool tz.f1) := HP.out.cl 1 1 rfl rfl
       have yt2 : wr.cell? ⟨bt, 2, none⟩ = some (.int .i64 tz.f2) := HP.out.cl 1 2 rfl rfl
       have yt3 : wr.cell? ⟨bt, 3, none⟩ = some (.string tz.f3) := HP.out.cl 1 3 rfl rfl
       have yt4 : wr.cell? ⟨bt, 4, none⟩ = some (.slice Z4 tz.f4.length Z4c) := HP.out.cl 1 4 rfl rfl
       have yt5 : wr.cell? ⟨bt, 5, none⟩ = some (.slice Z5 tz.f5.length Z5c) := HP.out.cl 1 5 rfl rfl
       have zt0 := HP.out.fz 1 0 rfl
       have zt1 := HP.out.fz 1 1 rfl
       have zt2 := HP.out.fz 1 2 rfl
       have zt3 := HP.out.fz 1 3 rfl
       have zt4 := HP.out.fz 1 4 rfl
       have zt5 := HP.out.fz 1 5 rfl
       have yo0 : wr.cell? ⟨b9, 0, none⟩ = some (.int .i64 5) := HP.out.cl 0 0 rfl rfl
       have yo1 : wr.cell? ⟨b9, 1, none⟩ = some (.bool false) := HP.out.cl 0 1 rfl rfl
       have yo2 : wr.cell? ⟨b9, 2, none⟩ = some (.int .i64 0) := HP.out.cl 0 2 rfl rfl
       have yo3 : wr.cell? ⟨b9, 3, none⟩ = some (.string ⟨#[]⟩) := HP.out.cl 0 3 rfl rfl
       have yo4 : wr.cell? ⟨b9, 4, none⟩ = some (.slice Ao os.length co) := HP.out.cl 0 4 rfl rfl
       have yo5 : wr.cell? ⟨b9, 5, none⟩ = some (.slice none 0 0) := HP.out.cl 0 5 rfl rfl
       go_wp2_with (go_at_call 29; refine (put_row tz Z4 Z4c Z5 Z5c ⟨#[111, 110, 101, 111, 102]⟩ os Ao co t5 _ (fun k => bf < k ∧ k ≠ bt) HT3.out HFO.out HCO.out QL.out).mono ?_; rintro e W20 ⟨G4, G4c, G5, G5c, rfl, hr, hb⟩; have LTF := Aside0.mk (HP.out.lt 2 rfl); have LTT := Aside0.mk (HP.out.lt 1 rfl); have HT5 := Aside0.mk (hr.mono (ok' := (fun k => bf < k ∧ k ≠ bt)) (fun k hk => hk.elim (fun h_ => h_) (fun h_ => ⟨by have := LTF.out; omega, by have := LTT.out; omega⟩))); clear LTF LTT hr HT HT3; have n0 := Aside0.mk (HP.out.below hb); have n1 := Aside0.mk (Kd.N_below HN.out hb); clear HP HN; have HP := n0; have HN := n1; clear n0 n1; clear hb; have yu0 : W20.cell? ⟨bt, 0, none⟩ = some (.int .i64 tz.f0) := HP.out.cl 1 0 rfl rfl; have yu1 : W20.cell? ⟨bt, 1, none⟩ = some (.bool tz.f1) := HP.out.cl 1 1 rfl rfl; have yu2 : W20.cell? ⟨bt, 2, none⟩ = some (.int .i64 tz.f2) := HP.out.cl 1 2 rfl rfl; have yu3 : W20.cell? ⟨bt, 3, none⟩ = some (.string tz.f3) := HP.out.cl 1 3 rfl rfl; have yu4 : W20.cell? ⟨bt, 4, none⟩ = some (.slice Z4 tz.f4.length Z4c) := HP.out.cl 1 4 rfl rfl; have yu5 : W20.cell? ⟨bt, 5, none⟩ = some (.slice Z5 tz.f5.length Z5c) := HP.out.cl 1 5 rfl rfl; have zu0 := HP.out.fz 1 0 rfl; have zu1 := HP.out.fz 1 1 rfl; have zu2 := HP.out.fz 1 2 rfl; have zu3 := HP.out.fz 1 3 rfl; have zu4 := HP.out.fz 1 4 rfl; have zu5 := HP.out.fz 1 5 rfl)
       go_meet
       case rel => exact ⟨t5, G4, G4c, G5, G5c, Q6, ⟨HT5.out.six (g := bt) (fun k hk => hk.2) (.int .i64 t5.f0) (.bool t5.f1) (.int .i64 t5.f2) (.string t5.f3) (.slice G4 t5.f4.length G4c) (.slice G5 t5.f5.length G5c)⟩, ⟨Kd.N_step HN.out (fun k hk hlt => six_same (g := bt) (k := k) (by have := hk.2; have := HGS.out; omega) hlt (.int .i64 t5.f0) (.bool t5.f1) (.int .i64 t5.f2) (.string t5.f3) (.slice G4 t5.f4.length G4c) (.slice G5 t5.f5.length G5c))⟩, ⟨(HP.out.six 1 rfl (.int .i64 t5.f0) (.bool t5.f1) (.int .i64 t5.f2) (.string t5.f3) (.slice G4 t5.f4.length G4c) (.slice G5 t5.f5.length G5c)).tail⟩⟩
      | succ kC =>
       have pc0 : 0 ≤ mm := by have := HIIm.out; omega
       have pc1 : mm < (x.f6.length : Int) := by have := HIIm.out; have := HIm.out; omega
       have qc1 : decide (mm < (x.f6.length : Int)) = true := decide_eq_true pc1
       have qc0 : decide (0 ≤ mm) = true := decide_eq_true pc0
       obtain ⟨ak, e_, y0⟩ := Kd.at_string G6.out mm pc0 pc1
       cases e_
       have HTK := Aside0.mk (show (x.f6.take (m + 1)).map vS = (x.f6.take m).map vS ++ [vS (rdOf ByteArray.empty x.f6 mm)] by rw [HIIm.out]; exact vLmap _ _ (by have := HIm.out; omega))
       have HOL := Aside0.mk (show ((x.f6.take m).map vS).length ≤ 2000000 by rw [List.length_map, List.length_take]; have := HMX6.out; omega)
       generalize rdOf ByteArray.empty x.f6 mm = sv at y0 HTK
       generalize (x.f6.take m).map vS = outs at HO HTK HOL
       replace y0 := (HP.out.B.cell (World.block_lt_of_cell? w _ y0)).trans y0
       replace pc0 := eq_true pc0
       replace pc1 := eq_true pc1
       obtain ⟨Ao, co, hvo⟩ := Kd.N_slice HO.out
       subst hvo
       go_upto_region 18 with (fail)
       clear y0
       have hb := below_drew (Below.refl wr.heap.size wr)
       have n0 := Aside0.mk (HP.out.below hb)
       have n1 := Aside0.mk (HT.out.below hb)
       have n2 := Aside0.mk (Kd.N_below HN.out hb)
       have n3 := Aside0.mk (Kd.N_below HO.out hb)
       have n4 := Aside0.mk (Nat.le_trans HS5.out hb.size)
       clear HP HT HN HO HS5
       have HP := n0
       have HT := n1
       have HN := n2
       have HO := n3
       have HS5 := n4
       clear n0 n1 n2 n3 n4
       clear hb
       refine start_ (n := 8) (S := fun w' => w'.cell? ⟨b9, 4, none⟩ = some (.slice Ao outs.length co)) (ds := [7]) #[false, false, false, false, false, false, false, false] (by kernel_rfl) rfl rfl (HP.out.cl 0 4 rfl rfl) (fun hHeld => ?_)
       generalize wr.drew = y1 at HP HT HN HO HS5 hHeld ⊢
       refine pure_ (i := 0) (N := some 67) (v := ?_) (a' := ?_) (ob 8 1) rfl rfl (by kernel_rfl) (fun _ _ _ h => h) (Or.inl ⟨by rfl, ?_⟩) ?_ ?_
       rotate_left
       ·intro w'
        go_simp
        with_reducible rfl
       rotate_left
       ·simp only [Act.put, List.setIfInBounds_toArray, List.set_cons_zero, List.set_cons_succ, i64_w, i32_w]
        rfl
       refine pure_ (i := 2) (N := some 69) (v := ?_) (a' := ?_) (ob 8 5) rfl rfl (by kernel_rfl) (fun _ _ _ h => h) (Or.inl ⟨by rfl, ?_⟩) ?_ ?_
       rotate_left
       ·intro w'
        go_simp
        with_reducible rfl
       rotate_left
       ·simp only [Act.put, List.setIfInBounds_toArray, List.set_cons_zero, List.set_cons_succ, i64_w, i32_w]
        rfl
       refine take_ (i := 1) (N := some 68) (v := ?_) (a' := ?_) (ob 8 7) rfl rfl (by kernel_rfl) (fun _ _ _ h => h) (Or.inl ⟨by rfl, ?_⟩) hHeld ?_ ?_
       rotate_left
       ·intro w' s0
        go_simp
        with_reducible rfl
       rotate_left
       ·simp only [Act.put, List.setIfInBounds_toArray, List.set_cons_zero, List.set_cons_succ, i64_w, i32_w]
        rfl
       refine one_ (i := 3) (N := some 70) (ob 8 15) rfl rfl (by kernel_rfl) (by decide) (fun K hK => ?_)
       refine goes_ Tryz.func30 (by kernel_rfl) rfl #[.string sv] (by rfl) rfl rfl (by simp only [List.map_toArray, List.map_cons, List.map_nil]; rfl) ?_
       with_reducible refine (str_calls sv _).mono ?_
       rintro e y3 ⟨rfl, hb⟩
       refine ⟨_, rfl, ?_⟩
       have n0 := Aside0.mk (HP.out.below hb)
       have n1 := Aside0.mk (HT.out.below hb)
       have n2 := Aside0.mk (Kd.N_below HN.out hb)
       have n3 := Aside0.mk (Kd.N_below HO.out hb)
       have n4 := Aside0.mk (Nat.le_trans HS5.out hb.size)
       clear HP HT HN HO HS5
       have HP := n0
       have HT := n1
       have HN := n2
       have HO := n3
       have HS5 := n4
       clear n0 n1 n2 n3 n4
       clear hb
       refine hK.out _ _ (HP.out.cl 0 4 rfl rfl) (fun hHeld => ?_)
       clear hK K
       refine norm_ (a' := ?_) ?_ ?_
       rotate_left
       ·show Act.put _ (some 70) _ = _
        simp only [Act.put, List.setIfInBounds_toArray, List.set_cons_zero, List.set_cons_succ, i64_w, i32_w]
        rfl
       refine one_ (i := 4) (N := some 71) (ob 8 31) rfl rfl (by kernel_rfl) (by decide) (fun K hK => ?_)
       refine value_ (w1 := ?_) (v := ?_) (by rfl) rfl ?_ ?_
       rotate_left 2
       ·go_simp
        constructor
        ·rfl
        ·rfl
       refine hK.out _ _ ((blk_cell ((HP.out.below (below_alloc (Below.refl _ _) _)).get 0 rfl) 4).trans rfl) (fun hHeld => ?_)
       clear hK K
       refine norm_ (a' := ?_) ?_ ?_
       rotate_left
       ·show Act.put _ (some 71) _ = _
        simp only [Act.put, List.setIfInBounds_toArray, List.set_cons_zero, List.set_cons_succ, i64_w, i32_w]
        rfl
       refine one_ (i := 5) (N := some 72) (ob 8 63) rfl rfl (by kernel_rfl) (by decide) (fun K hK => ?_)
       refine Kd.N_append_step k25 (w0 := y3) no (by rfl) (.tmp 68) (.tmp 71) 22 25 (.agg #[.int .i64 0, .bool false, .int .i64 0, .string ⟨#[]⟩, .slice none 0 0, .slice none 0 0]) 88 rfl Tryz.underlying22 info25' rfl (by decide) (by omega) (.slice Ao outs.length co) outs (vS sv) [.int .i64 3, .bool false, .int .i64 0, .string sv, .slice none 0 0, .slice none 0 0] (fun k => b9 < k) (fun _ => False) rfl (by rfl) (k25_mkF _ _ (vS sv) (Nat.le_refl _) (Kd.F_nil _ _ _) (Nat.le_refl _) (Kd.F_nil _ _ _)) (fun _ h => h.elim) (fun k hk => by have := LB9.out; have := HS5.out; omega) HO.out (Below.refl _ _) HS5.out (by have := HOL.out; omega) ?_
       intro v5 y5 ho hb hg hat
       generalize houts : outs ++ [vS sv] = outs2 at ho
       have HTK2 := Aside0.mk (HTK.out.trans houts)
       clear houts
       obtain ⟨A7, c7, hv7⟩ := Kd.N_slice ho
       subst hv7
       have n0 := Aside0.mk (HP.out.grown hg (HP.out.B.grown hg HP.out.size (fun k e => by have h1_ := Kd.N_base HO.out k e; have h2_ := HP.out.low 0 rfl; have := LB9.out; omega)) (fun i p hp he => by have h1_ := HP.out.head_le i p hp; have h2_ := Kd.N_base HO.out _ he.symm; have := LB9.out; omega))
       have n1 := Aside0.mk (HT.out.step (fun k hk hlt => hg.block k hlt (fun he => by have h1_ := Kd.N_base HO.out k he.symm; have := hk.2; have := LB9.out; omega)))
       have n2 := Aside0.mk (Kd.N_step HN.out (fun k hk hlt => hg.block k hlt (fun he => by have h1_ := Kd.N_base HO.out k he.symm; have := hk.2; have := HG9.out; have := LB9.out; omega)))
       have n3 := Aside0.mk (Nat.le_trans HS5.out hg.size)
       clear HP HT HN HS5
       have HP := n0
       have HT := n1
       have HN := n2
       have HS5 := n3
       clear n0 n1 n2 n3
       clear HO
       have HO := Aside0.mk ho
       clear ho hb hg hat
       refine hK.out _ _ (HP.out.cl 0 4 rfl rfl) (fun hHeld => ?_)
       clear hK K
       refine norm_ (a' := ?_) ?_ ?_
       rotate_left
       ·show Act.put _ (some 72) _ = _
        simp only [Act.put, List.setIfInBounds_toArray, List.set_cons_zero, List.set_cons_succ, i64_w, i32_w]
        rfl
       refine pure_ (i := 6) (N := some 73) (v := ?_) (a' := ?_) (ob 8 127) rfl rfl (by kernel_rfl) (fun _ _ _ h => h) (Or.inl ⟨by rfl, ?_⟩) ?_ ?_
       rotate_left
       ·intro w'
        go_simp
        with_reducible rfl
       rotate_left
       ·simp only [Act.put, List.setIfInBounds_toArray, List.set_cons_zero, List.set_cons_succ, i64_w, i32_w]
        rfl
       refine last_ (i := 7) (N := none) (ob 8 255) rfl rfl (by kernel_rfl) (by decide) (fun K hK => ?_)
       have yo4 : y5.cell? ⟨b9, 4, none⟩ = some (.slice Ao outs.length co) := HP.out.cl 0 4 rfl rfl
       have zo4 := HP.out.fz 0 4 rfl
       refine skip_ (w1 := ?_) (by rfl) rfl ?_ ?_
       rotate_left
       ·go_simp
        rfl
       clear yo4 zo4
       have n0 := Aside0.mk ((HP.out.put' 0 rfl 4 (.slice A7 outs2.length c7) rfl).1)
       have n1 := Aside0.mk (HT.out.step (fun k hk hlt => Below.heap_setCell y5 ⟨b9, 4, none⟩ (.slice A7 outs2.length c7) k (by have := hk.2; show k ≠ b9; omega)))
       have n2 := Aside0.mk (Kd.N_far HN.out (p := ⟨b9, 4, none⟩) (fun k hk => by have := hk.2; have := HG9.out; show k ≠ b9; omega) (.slice A7 outs2.length c7))
       have n3 := Aside0.mk (Kd.N_far HO.out (p := ⟨b9, 4, none⟩) (fun k hk => Nat.ne_of_gt hk) (.slice A7 outs2.length c7))
       have n4 := Aside0.mk (show no ≤ (y5.setCell ⟨b9, 4, none⟩ (.slice A7 outs2.length c7)).heap.size from Nat.le_trans HS5.out ((Below.refl 0 y5).setCell (p := ⟨b9, 4, none⟩) (Nat.zero_le _) (.slice A7 outs2.length c7)).size)
       clear HP HT HN HO HS5
       have HP := n0
       have HT := n1
       have HN := n2
       have HO := n3
       have HS5 := n4
       clear n0 n1 n2 n3 n4
       generalize y5.setCell ⟨b9, 4, none⟩ (.slice A7 outs2.length c7) = y6 at HP HT HN HO HS5 ⊢
       refine hK.out _ _ ?_
       clear hK K
       refine done_ (by kernel_rfl) ?_
       go_wp2_with fail
       go_roundg kC
       case measure => omega
       case rel => exact ⟨_, m + 1, _, rfl, ⟨by have h1_ := HMX6.out; have h2_ := HIIm.out; have h3_ := HIm.out; unfold wrap64; omega⟩, ⟨by have := HIm.out; omega⟩, HS5, ⟨by rw [HTK2.out]; exact HO.out⟩, HT, HN, HP⟩
    case rest =>
     clear HT HN HP QO
     obtain ⟨ty, Y4, Y4c, Y5, Y5c, Q6, HT, HN, HP⟩ := hcut
     obtain ⟨b6, hb6⟩ : ∃ b, b = (x.f7.f0 != 0) := ⟨_, rfl⟩
     have e6a : (x.f7.f0 != 0) = b6 := hb6.symm
     have HB6 := Aside0.mk hb6
     clear hb6
     have yf7 : wc.cell? ⟨bf, 7, none⟩ = some (.int .i64 x.f7.f0) := HP.out.cl 1 7 rfl rfl
     go_upto_if 81 with (fail)
     clear yf7 e6a
     go_cut [] (fun wc => ∃ (tz : S25) (Z4 : Option Addr) (Z4c : Nat) (Z5 : Option Addr) (Z5c : Nat), Aside0 (tz = tt) ∧ Aside0 (RdF wc (fun k => bf < k ∧ k ≠ bt) tz Z4 Z4c Z5 Z5c) ∧ Aside0 (Kd.N k25 25 wc nb (fun k => b5 < k ∧ k < s0) (.slice Av acc.length cv) acc) ∧ Aside0 (Bs w wc [(bt, #[.int .i64 tz.f0, .bool tz.f1, .int .i64 tz.f2, .string tz.f3, .slice Z4 tz.f4.length Z4c, .slice Z5 tz.f5.length Z5c], 25), (bf, #[.string x.f0, .int .i64 x.f1, .bool x.f2, .bool x.f3, .int .i64 x.f4, .int .i64 x.f5, .slice A6 x.f6.length c6, .int .i64 x.f7.f0, .bool x.f7.f1, .int .i64 x.f7.f2, .string x.f7.f3, .slice A11 x.f7.f4.length c11, .slice A12 x.f7.f5.length c12], 44), (b5, #[.int .i64 5, .bool false, .int .i64 0, .string ⟨#[]⟩, .slice Av acc.length cv, .slice none 0 0], 25), (br, #[.int .i64 0, .bool false, .int .i64 0, .string ⟨#[]⟩, .slice none 0 0, .slice none 0 0], 25), (bs, #[.slice (some ad) l.length c, .bool st], 41)]))
     case first =>
      have h6 := Q6.out
      clear Q6
      unfold fDef at h6
      by_cases c5 : x.f7.f0 = 0
      case pos =>
       rw [if_pos c5] at h6
       injection h6 with h6
       subst h6
       have hb6 := HB6.out
       rw [bne_eq_false_iff_eq.2 c5] at hb6
       subst hb6
       replace c5 := Aside0.mk c5
       go_wp2_with fail
       go_meet
       case rel => exact ⟨ty, Y4, Y4c, Y5, Y5c, ⟨rfl⟩, HT, HN, HP⟩
      rw [if_neg c5] at h6
      obtain ⟨cl, hcl, h6⟩ := Option.bind_eq_some_iff.1 h6
      have QC := Aside0.mk hcl
      have QD := Aside0.mk h6
      clear hcl h6
      have hb6 := HB6.out
      rw [bne_iff_ne.2 c5] at hb6
      subst hb6
      replace c5 := Aside0.mk c5
      go_upto_region 22 with (fail)
      have hb := below_drew (Below.refl wc.heap.size wc)
      have n0 := Aside0.mk (HP.out.below hb)
      have n1 := Aside0.mk (HT.out.below hb)
      have n2 := Aside0.mk (Kd.N_below HN.out hb)
      clear HP HT HN
      have HP := n0
      have HT := n1
      have HN := n2
      clear n0 n1 n2
      clear hb
      refine start_ (n := 6) (S := fun w' => w'.cell? ⟨bt, 0, none⟩ = some (.int .i64 ty.f0) ∧ w'.cell? ⟨bt, 1, none⟩ = some (.bool ty.f1) ∧ w'.cell? ⟨bt, 2, none⟩ = some (.int .i64 ty.f2) ∧ w'.cell? ⟨bt, 3, none⟩ = some (.string ty.f3) ∧ w'.cell? ⟨bt, 4, none⟩ = some (.slice Y4 ty.f4.length Y4c) ∧ w'.cell? ⟨bt, 5, none⟩ = some (.slice Y5 ty.f5.length Y5c) ∧ w'.cell? ⟨bf, 7, none⟩ = some (.int .i64 x.f7.f0) ∧ w'.cell? ⟨bf, 8, none⟩ = some (.bool x.f7.f1) ∧ w'.cell? ⟨bf, 9, none⟩ = some (.int .i64 x.f7.f2) ∧ w'.cell? ⟨bf, 10, none⟩ = some (.string x.f7.f3) ∧ w'.cell? ⟨bf, 11, none⟩ = some (.slice A11 x.f7.f4.length c11) ∧ w'.cell? ⟨bf, 12, none⟩ = some (.slice A12 x.f7.f5.length c12)) (ds := [5]) #[false, false, false, false, false, false] (by kernel_rfl) rfl rfl ⟨HP.out.cl 0 0 rfl rfl, HP.out.cl 0 1 rfl rfl, HP.out.cl 0 2 rfl rfl, HP.out.cl 0 3 rfl rfl, HP.out.cl 0 4 rfl rfl, HP.out.cl 0 5 rfl rfl, HP.out.cl 1 7 rfl rfl, HP.out.cl 1 8 rfl rfl, HP.out.cl 1 9 rfl rfl, HP.out.cl 1 10 rfl rfl, HP.out.cl 1 11 rfl rfl, HP.out.cl 1 12 rfl rfl⟩ (fun hHeld => ?_)
      generalize wc.drew = W21 at HP HT HN hHeld ⊢
      refine pure_ (i := 1) (N := some 83) (v := ?_) (a' := ?_) (ob 6 2) rfl rfl (by kernel_rfl) (fun _ _ _ h => h) (Or.inl ⟨by rfl, ?_⟩) ?_ ?_
      rotate_left
      ·intro w'
       go_simp
       with_reducible rfl
      rotate_left
      ·simp only [Act.put, List.setIfInBounds_toArray, List.set_cons_zero, List.set_cons_succ, i64_w, i32_w]
       rfl
      refine take_ (i := 0) (N := some 82) (v := ?_) (a' := ?_) (ob 6 3) rfl rfl (by kernel_rfl) (fun _ _ _ h => h) (Or.inl ⟨by rfl, ?_⟩) hHeld ?_ ?_
      rotate_left
      ·rintro w' ⟨s0, s1, s2, s3, s4, s5, s6, s7, s8, s9, s10, s11⟩
       go_simp
       with_reducible rfl
      rotate_left
      ·simp only [Act.put, List.setIfInBounds_toArray, List.set_cons_zero, List.set_cons_succ, i64_w, i32_w]
       rfl
      refine take_ (i := 2) (N := some 84) (v := ?_) (a' := ?_) (ob 6 7) rfl rfl (by kernel_rfl) (fun _ _ _ h => h) (Or.inl ⟨by rfl, ?_⟩) hHeld ?_ ?_
      rotate_left
      ·rintro w' ⟨s0, s1, s2, s3, s4, s5, s6, s7, s8, s9, s10, s11⟩
       go_simp
       with_reducible rfl
      rotate_left
      ·simp only [Act.put, List.setIfInBounds_toArray, List.set_cons_zero, List.set_cons_succ, i64_w, i32_w]
       rfl
      refine one_ (i := 3) (N := some 85) (ob 6 15) rfl rfl (by kernel_rfl) (by decide) (fun K hK => ?_)
      refine goes_ Tryz.func21 (by kernel_rfl) rfl #[.agg #[.int .i64 x.f7.f0, .bool x.f7.f1, .int .i64 x.f7.f2, .string x.f7.f3, .slice A11 x.f7.f4.length c11, .slice A12 x.f7.f5.length c12]] (by rfl) rfl rfl (by simp only [List.map_toArray, List.map_cons, List.map_nil]; rfl) ?_
      with_reducible refine (clone_calls k x.f7 A11 c11 A12 c12 cl _ (G7.out.below HP.out.B) QC.out).mono ?_
      rintro e y3 ⟨L4, L4c, L5, L5c, rfl, hr, hb⟩
      refine ⟨_, rfl, ?_⟩
      have LTF := Aside0.mk (HP.out.lt 1 rfl)
      have LTT := Aside0.mk (HP.out.lt 0 rfl)
      have HC := Aside0.mk (hr.mono (ok' := (fun k => bf < k ∧ k ≠ bt)) (fun k hk => ⟨by have := LTF.out; omega, by have := LTT.out; omega⟩))
      clear LTF LTT hr
      have n0 := Aside0.mk (HP.out.below hb)
      have n1 := Aside0.mk (HT.out.below hb)
      have n2 := Aside0.mk (Kd.N_below HN.out hb)
      clear HP HT HN
      have HP := n0
      have HT := n1
      have HN := n2
      clear n0 n1 n2
      clear hb
      refine hK.out _ _ ⟨HP.out.cl 0 0 rfl rfl, HP.out.cl 0 1 rfl rfl, HP.out.cl 0 2 rfl rfl, HP.out.cl 0 3 rfl rfl, HP.out.cl 0 4 rfl rfl, HP.out.cl 0 5 rfl rfl, HP.out.cl 1 7 rfl rfl, HP.out.cl 1 8 rfl rfl, HP.out.cl 1 9 rfl rfl, HP.out.cl 1 10 rfl rfl, HP.out.cl 1 11 rfl rfl, HP.out.cl 1 12 rfl rfl⟩ (fun hHeld => ?_)
      clear hK K
      refine norm_ (a' := ?_) ?_ ?_
      rotate_left
      ·show Act.put _ (some 85) _ = _
       simp only [Act.put, List.setIfInBounds_toArray, List.set_cons_zero, List.set_cons_succ, i64_w, i32_w]
       rfl
      refine one_ (i := 4) (N := some 86) (ob 6 31) rfl rfl (by kernel_rfl) (by decide) (fun K hK => ?_)
      refine goes_ Tryz.func29 (by kernel_rfl) rfl #[.agg #[.int .i64 ty.f0, .bool ty.f1, .int .i64 ty.f2, .string ty.f3, .slice Y4 ty.f4.length Y4c, .slice Y5 ty.f5.length Y5c], .string ⟨#[100, 101, 102, 97, 117, 108, 116]⟩, .agg #[.int .i64 cl.f0, .bool cl.f1, .int .i64 cl.f2, .string cl.f3, .slice L4 cl.f4.length L4c, .slice L5 cl.f5.length L5c]] (by rfl) rfl rfl (by simp only [List.map_toArray, List.map_cons, List.map_nil]; rfl) ?_
      with_reducible refine (put_calls ty Y4 Y4c Y5 Y5c ⟨#[100, 101, 102, 97, 117, 108, 116]⟩ cl L4 L4c L5 L5c tt _ (fun k => bf < k ∧ k ≠ bt) HT.out HC.out QD.out).mono ?_
      rintro e y4 ⟨G4, G4c, G5, G5c, rfl, hr, hb⟩
      refine ⟨_, rfl, ?_⟩
      have LTF := Aside0.mk (HP.out.lt 1 rfl)
      have LTT := Aside0.mk (HP.out.lt 0 rfl)
      have n3 := Aside0.mk (hr.mono (ok' := (fun k => bf < k ∧ k ≠ bt)) (fun k hk => hk.elim (fun h_ => h_) (fun h_ => ⟨by have := LTF.out; omega, by have := LTT.out; omega⟩)))
      clear LTF LTT hr HT HC
      have HT := n3
      clear n3
      have n0 := Aside0.mk (HP.out.below hb)
      have n1 := Aside0.mk (Kd.N_below HN.out hb)
      clear HP HN
      have HP := n0
      have HN := n1
      clear n0 n1
      clear hb
      refine hK.out _ _ ⟨HP.out.cl 0 0 rfl rfl, HP.out.cl 0 1 rfl rfl, HP.out.cl 0 2 rfl rfl, HP.out.cl 0 3 rfl rfl, HP.out.cl 0 4 rfl rfl, HP.out.cl 0 5 rfl rfl, HP.out.cl 1 7 rfl rfl, HP.out.cl 1 8 rfl rfl, HP.out.cl 1 9 rfl rfl, HP.out.cl 1 10 rfl rfl, HP.out.cl 1 11 rfl rfl, HP.out.cl 1 12 rfl rfl⟩ (fun hHeld => ?_)
      clear hK K
      refine norm_ (a' := ?_) ?_ ?_
      rotate_left
      ·show Act.put _ (some 86) _ = _
       simp only [Act.put, List.setIfInBounds_toArray, List.set_cons_zero, List.set_cons_succ, i64_w, i32_w]
       rfl
      refine last_ (i := 5) (N := none) (ob 6 63) rfl rfl (by kernel_rfl) (by decide) (fun K hK => ?_)
      have yu0 : y4.cell? ⟨bt, 0, none⟩ = some (.int .i64 ty.f0) := HP.out.cl 0 0 rfl rfl
      have yu1 : y4.cell? ⟨bt, 1, none⟩ = some (.bool ty.f1) := HP.out.cl 0 1 rfl rfl
      have yu2 : y4.cell? ⟨bt, 2, none⟩ = some (.int .i64 ty.f2) := HP.out.cl 0 2 rfl rfl
      have yu3 : y4.cell? ⟨bt, 3, none⟩ = some (.string ty.f3) := HP.out.cl 0 3 rfl rfl
      have yu4 : y4.cell? ⟨bt, 4, none⟩ = some (.slice Y4 ty.f4.length Y4c) := HP.out.cl 0 4 rfl rfl
      have yu5 : y4.cell? ⟨bt, 5, none⟩ = some (.slice Y5 ty.f5.length Y5c) := HP.out.cl 0 5 rfl rfl
      have zu0 := HP.out.fz 0 0 rfl
      have zu1 := HP.out.fz 0 1 rfl
      have zu2 := HP.out.fz 0 2 rfl
      have zu3 := HP.out.fz 0 3 rfl
      have zu4 := HP.out.fz 0 4 rfl
      have zu5 := HP.out.fz 0 5 rfl
      refine skip_ (w1 := ?_) (by rfl) rfl ?_ ?_
      rotate_left
      ·go_simp
       rfl
      clear yu0 zu0 yu1 zu1 yu2 zu2 yu3 zu3 yu4 zu4 yu5 zu5
      have n0 := Aside0.mk (HP.out.six 0 rfl (.int .i64 tt.f0) (.bool tt.f1) (.int .i64 tt.f2) (.string tt.f3) (.slice G4 tt.f4.length G4c) (.slice G5 tt.f5.length G5c))
      have n1 := Aside0.mk (HT.out.six (g := bt) (fun k hk => hk.2) (.int .i64 tt.f0) (.bool tt.f1) (.int .i64 tt.f2) (.string tt.f3) (.slice G4 tt.f4.length G4c) (.slice G5 tt.f5.length G5c))
      have n2 := Aside0.mk (Kd.N_step HN.out (fun k hk hlt => six_same (g := bt) (k := k) (by have := hk.2; have := HGS.out; omega) hlt (.int .i64 tt.f0) (.bool tt.f1) (.int .i64 tt.f2) (.string tt.f3) (.slice G4 tt.f4.length G4c) (.slice G5 tt.f5.length G5c)))
      clear HP HT HN
      have HP := n0
      have HT := n1
      have HN := n2
      clear n0 n1 n2
      generalize ((((((y4.setCell ⟨bt, 0, none⟩ (.int .i64 tt.f0)).setCell ⟨bt, 1, none⟩ (.bool tt.f1)).setCell ⟨bt, 2, none⟩ (.int .i64 tt.f2)).setCell ⟨bt, 3, none⟩ (.string tt.f3)).setCell ⟨bt, 4, none⟩ (.slice G4 tt.f4.length G4c)).setCell ⟨bt, 5, none⟩ (.slice G5 tt.f5.length G5c)) = W22 at HP HT HN ⊢
      refine hK.out _ _ ?_
      clear hK K
      refine done_ (by kernel_rfl) ?_
      go_wp2_with fail
      go_meet
      case rel => exact ⟨tt, G4, G4c, G5, G5c, ⟨rfl⟩, HT, HN, HP⟩
     case rest =>
      clear HT HN HP Q6
      obtain ⟨tv, V4, V4c, V5, V5c, HEQ, HT, HN, HP⟩ := hcut
      have heq := HEQ.out
      subst heq
      clear HEQ
      have ya4 : wc.cell? ⟨b5, 4, none⟩ = some (.slice Av acc.length cv) := HP.out.cl 2 4 rfl rfl
      have yt0 : wc.cell? ⟨bt, 0, none⟩ = some (.int .i64 tv.f0) := HP.out.cl 0 0 rfl rfl
      have yt1 : wc.cell? ⟨bt, 1, none⟩ = some (.bool tv.f1) := HP.out.cl 0 1 rfl rfl
      have yt2 : wc.cell? ⟨bt, 2, none⟩ = some (.int .i64 tv.f2) := HP.out.cl 0 2 rfl rfl
      have yt3 : wc.cell? ⟨bt, 3, none⟩ = some (.string tv.f3) := HP.out.cl 0 3 rfl rfl
      have yt4 : wc.cell? ⟨bt, 4, none⟩ = some (.slice V4 tv.f4.length V4c) := HP.out.cl 0 4 rfl rfl
      have yt5 : wc.cell? ⟨bt, 5, none⟩ = some (.slice V5 tv.f5.length V5c) := HP.out.cl 0 5 rfl rfl
      go_upto_region 23 with (fail)
      go_wp2_with ((with_reducible refine gate_builtin (b := .append) (xs := #[.tmp 88, .tmp 90]) rfl ?_); (try (refine gate_guard (by rfl) ?_; dsimp only)); at_builtin; have HTL := Aside0.mk (HP.out.lt 2 rfl); have HNS := Aside0.mk (show nb ≤ wc.heap.size by have h_ := HP.out.lt 0 rfl; have := HGS.out; have := HNB.out; omega); have LBF := Aside0.mk (show b5 < bf from HP.out.nd 1 2 _ _ (by omega) rfl rfl); refine Kd.N_append k25 (w0 := wc) nb rfl (.tmp 88) (.tmp 90) 22 25 (.agg #[.int .i64 0, .bool false, .int .i64 0, .string ⟨#[]⟩, .slice none 0 0, .slice none 0 0]) 88 rfl Tryz.underlying22 info25' rfl (by decide) (by omega) (.slice Av acc.length cv) acc tv [.int .i64 tv.f0, .bool tv.f1, .int .i64 tv.f2, .string tv.f3, .slice V4 tv.f4.length V4c, .slice V5 tv.f5.length V5c] (fun k => b5 < k) _ rfl (by rfl) (k25_mkF _ _ tv HT.out.2.1 HT.out.1 HT.out.2.2.2 HT.out.2.2.1) (fun k hk => ⟨by have := LBF.out; have := hk.1; omega, fun he => by have h_ := (HN.out.1 k he.symm).2; have := hk.1; have := HGE.out; omega⟩) (fun k hk => by have := HTL.out; omega) (Kd.N_mono HN.out (fun k hk => hk.1)) (Below.refl _ _) (by have h_ := HP.out.lt 0 rfl; have := HGS.out; have := HNB.out; omega) (by have := HLA.out; have := HI.out; have := HL100.out; omega) ?_; intro v5 y5 ho hb hg hat; generalize hacc : acc ++ [tv] = acc2 at ho; have HA2 := Aside0.mk hacc.symm; clear hacc; obtain ⟨A7, c7, hv7⟩ := Kd.N_slice ho; subst hv7; have nT := Aside0.mk HP.out.tail.tail; clear HP; have HP := nT; clear nT; have n0 := Aside0.mk (HP.out.grown hg (HP.out.B.grown hg HP.out.size (fun k e => by have h1_ := Kd.N_base HN.out k e; have h2_ := HP.out.low 0 rfl; have := LB5.out; omega)) (fun i p hp he => by have h1_ := HP.out.head_le i p hp; have h2_ := Kd.N_base HN.out _ he.symm; have := LB5.out; omega)); clear HP; have HP := n0; clear n0; clear HN; have HN := Aside0.mk ho; have yb4 : y5.cell? ⟨b5, 4, none⟩ = some (.slice Av acc.length cv) := HP.out.cl 0 4 rfl rfl; have zb4 := HP.out.fz 0 4 rfl; have HSZ5 := Aside0.mk (show nb ≤ y5.heap.size from Nat.le_trans HNS.out hg.size); clear ho hb hg hat)
      go_roundg k1
      case measure => omega
      case rel => exact ⟨_, i + 1, _, acc2, tr2, rfl, ⟨by have h1_ := HMX.out; have h2_ := HII.out; have h3_ := HI.out; unfold wrap64; omega⟩, ⟨by have := HI.out; omega⟩, ⟨HTS.out⟩, ⟨by rw [HA2.out, List.append_assoc]; exact HAC.out⟩, ⟨by rw [HA2.out, List.length_append, HLA.out]; rfl⟩, ⟨Nat.le_trans HSZ5.out ((Below.refl 0 y5).setCell (p := ⟨b5, 4, none⟩) (Nat.zero_le _) (.slice A7 acc2.length c7)).size⟩, ⟨Kd.N_far HN.out (p := ⟨b5, 4, none⟩) (fun k hk => Nat.ne_of_gt hk) (.slice A7 acc2.length c7)⟩, ⟨(HP.out.put' 0 rfl 4 (.slice A7 acc2.length c7) rfl).1⟩⟩
end Go.Proofs.YtlofkjdcapbohaaGreatDoor.PConfKeeps
