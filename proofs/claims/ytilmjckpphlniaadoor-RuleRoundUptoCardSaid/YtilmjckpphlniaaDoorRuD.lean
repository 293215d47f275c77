/- For the law RuleRound: testText, walked. No condition. -/
import Derived.Test.YtilmjckpphlniaaDoorRuC
namespace Go.Proofs.YtilmjckpphlniaaDoor.PRuleRound
open Go.RowKit Go.Proofs.YtilmjckpphlniaaDoorW.PrintWords Go.Proofs.YtilmjckpphlniaaDoorW.PrintLast Go.Proofs.YtilmjckpphlniaaDoorW.PrintMore
set_option linter.unusedVariables false
set_option linter.unusedSimpArgs false

theorem sb_app (a b : List UInt8) : (sb a ++ sb b : ByteArray) = sb (a ++ b) := by
  apply ByteArray.ext
  simp [ByteArray.data_append]
theorem sb_size (a : List UInt8) : (sb a).size = a.length := by simp [ByteArray.size]
set_option maxHeartbeats 4000000 in
set_option maxRecDepth 100000 in
theorem tx_calls : ∀ n, n ≤ 12 → TXC n := by
  intro n
  induction n with
  | zero => intro _ t A c B w _ h; exact h.elim
  | succ n ih =>
  intro hn t A c B w hp hok hr hc
  have ih' := ih (by omega)
  have hu47 := Tryd.underlying47
  have LX := Aside0.mk (tx_len (n + 1) t hok)
  have TS := Aside0.mk (tl_small hn)
  obtain ⟨hkids, ⟨hlen, _⟩, hop⟩ := hok
  have HT := Aside0.mk hp
  have HK := Aside0.mk hkids
  have HL := Aside0.mk hlen
  have HR := Aside0.mk hr
  have HC := Aside0.mk hc
  have HN := Aside0.mk hn
  have IH := Aside0.mk ih'
  have HP := Aside0.mk (Bs.nil w)
  have LQ : Aside0 (∀ s : List UInt8, s.length ≤ 3 → (Lib.join (t.f4.map (kb (tx n))) s).length ≤ 100000000000000) := ⟨fun s hs => by
    have h1 := kids_len (n := n) (t := t) (sep := s) hs (fun k hk => tx_len n k (hkids k hk)) hlen
    have h2 := tl_small (n := n) (by omega)
    omega⟩
  clear hp hkids hlen hr hc hn ih ih'
  go_enter Tryd.func14, Tryd.ntmps14
  go_upto_region 2 with ((with_reducible refine gate_dst (N := 1) rfl ?_); refine box_event ?hg (N := 1) ?hd (cs := #[.int .i64 t.f0, .int .i64 t.f1, .int .i64 t.f2, .int .i64 t.f3, .slice A t.f4.length c]) (t := 47) ?hr ?_; (case hd => rfl); (case hg => rfl); (case hr => first | (go_simp; done) | (go_simp; rfl)); intro bt hg_ W1 hbox hb; have n0 := Aside0.mk (HP.out.new hg_ hbox hb); clear HP; have HP := n0; clear n0; clear hg_ hbox hb)
  have yt0 : W1.cell? ⟨bt, 0, none⟩ = some (.int .i64 t.f0) := (blk_cell (HP.out.get 0 rfl) 0).trans rfl
  have T3 : Aside0 (t.f0 = 3 → ∀ k ∈ t.f4, k.f0 ≠ 3) := ⟨fun h3 => by rcases hop with h_ | h_ | h_; (omega); (obtain ⟨_, _, _, _, _, h_⟩ := h_; exact fun k hk => h3 ▸ h_ k hk); (omega)⟩
  by_cases c2 : t.f0 = 2
  case pos =>
    have EX := Aside0.mk (show tx (n + 1) t = Lib.join (t.f4.map (kb (tx n))) sAnd by rw [tx, if_pos c2])
    have c2a : (t.f0 == 2) = true := beq_iff_eq.2 c2
    have c2b : (t.f0 != 2) = false := bne_eq_false_iff_eq.2 c2
    clear c2 hop
    go_wp2_with (go_at_call 28; refine (clo_calls n (by have := HN.out; omega) IH.out t A c bt ⟨#[32, 38, 32]⟩ B _ (HT.out.below HP.out.B) (HP.out.get 0 rfl) HK.out HL.out T3.out (by decide) (Kd.F_now (Kd.F_below (Kd.C_F k47_heap HR.out) HP.out.B)) HC.out).mono ?_; rintro e W2 ⟨rfl, hb⟩; have n0 := Aside0.mk (HP.out.below hb); clear HP; have HP := n0; clear n0; clear hb)
    go_ret
    exact ⟨by rw [EX.out]; rfl, HP.out.B⟩
  have c2a : (t.f0 == 2) = false := beq_eq_false_iff_ne.2 c2
  have c2b : (t.f0 != 2) = true := bne_iff_ne.2 c2
  by_cases c3 : t.f0 = 3
  case pos =>
    have EX := Aside0.mk (show tx (n + 1) t = Lib.join (t.f4.map (kb (tx n))) sOr by rw [tx, if_neg c2, if_pos c3])
    have c3a : (t.f0 == 3) = true := beq_iff_eq.2 c3
    have c3b : (t.f0 != 3) = false := bne_eq_false_iff_eq.2 c3
    clear c2 c3 hop
    go_wp2_with (go_at_call 28; refine (clo_calls n (by have := HN.out; omega) IH.out t A c bt ⟨#[32, 124, 32]⟩ B _ (HT.out.below HP.out.B) (HP.out.get 0 rfl) HK.out HL.out T3.out (by decide) (Kd.F_now (Kd.F_below (Kd.C_F k47_heap HR.out) HP.out.B)) HC.out).mono ?_; rintro e W2 ⟨rfl, hb⟩; have n0 := Aside0.mk (HP.out.below hb); clear HP; have HP := n0; clear n0; clear hb)
    go_ret
    exact ⟨by rw [EX.out]; rfl, HP.out.B⟩
  have c3a : (t.f0 == 3) = false := beq_eq_false_iff_ne.2 c3
  have c3b : (t.f0 != 3) = true := bne_iff_ne.2 c3
  by_cases c4 : t.f0 = 4
  case pos =>
    have EX := Aside0.mk (show sb (tx (n + 1) t) = ⟨#[33, 40]⟩ ++ sb (Lib.join (t.f4.map (kb (tx n))) sOr) ++ ⟨#[41]⟩ by rw [tx, if_neg c2, if_neg c3, if_pos c4]; exact (by rw [← sb_app, ← sb_app]))
    have c4a : (t.f0 == 4) = true := beq_iff_eq.2 c4
    have c4b : (t.f0 != 4) = false := bne_eq_false_iff_eq.2 c4
    obtain ⟨s, hs⟩ : ∃ s, s = sb (Lib.join (t.f4.map (kb (tx n))) sOr) := ⟨_, rfl⟩
    have HSE := Aside0.mk hs
    clear hs
    have HSS := Aside0.mk (show s.size ≤ 100000000000000 by rw [HSE.out, sb_size]; exact LQ.out sOr (by decide))
    have z1 : (9223372036854775807 < 2 + s.size) = False := eq_false (by have := HSS.out; omega)
    have z2 : (9223372036854775807 < (⟨#[33, 40]⟩ ++ s : ByteArray).size + 1) = False := eq_false (by have := HSS.out; simp [ByteArray.size_append]; have e1 : (⟨#[33, 40]⟩ : ByteArray).size = 2 := rfl; omega)
    have z3 : (9223372036854775807 < (⟨#[33, 40]⟩ : ByteArray).size + s.size) = False := eq_false (by have := HSS.out; have e1 : (⟨#[33, 40]⟩ : ByteArray).size = 2 := rfl; omega)
    have z4 : (9223372036854775807 < (⟨#[33, 40]⟩ : ByteArray).size + s.size + 1) = False := eq_false (by have := HSS.out; have e1 : (⟨#[33, 40]⟩ : ByteArray).size = 2 := rfl; omega)
    have z5 : (9223372036854775807 < 2 + s.size + 1) = False := eq_false (by have := HSS.out; omega)
    clear c2 c3 c4 hop
    go_wp2_with (go_at_call 28; refine (clo_calls n (by have := HN.out; omega) IH.out t A c bt ⟨#[32, 124, 32]⟩ B _ (HT.out.below HP.out.B) (HP.out.get 0 rfl) HK.out HL.out T3.out (by decide) (Kd.F_now (Kd.F_below (Kd.C_F k47_heap HR.out) HP.out.B)) HC.out).mono ?_; rintro e W2 ⟨he, hb⟩; replace he := he.trans (show _ = Ending.returned (.string s) by rw [HSE.out]); subst he; have n0 := Aside0.mk (HP.out.below hb); clear HP; have HP := n0; clear n0; clear hb)
    go_ret
    exact ⟨by rw [EX.out, HSE.out]; rfl, HP.out.B⟩
  have c4a : (t.f0 == 4) = false := beq_eq_false_iff_ne.2 c4
  have c4b : (t.f0 != 4) = true := bne_iff_ne.2 c4
  obtain ⟨h0, h4, hm, hlo, hlh, hhi⟩ : t.f0 = 1 ∧ t.f4 = [] ∧ (t.f1 = 0 ∨ 2 ≤ t.f1 ∧ t.f1 ≤ 1000000) ∧ 0 ≤ t.f2 ∧ t.f2 ≤ t.f3 ∧ t.f3 ≤ 1000000000 := by rcases hop with h_ | h_ | h_; (exact h_); (omega); (omega)
  have EX := Aside0.mk (show tx (n + 1) t = wt t by rw [tx, if_neg c2, if_neg c3, if_neg c4])
  have MM := Aside0.mk hm
  have LO := Aside0.mk (And.intro hlo (And.intro hlh hhi))
  clear c2 c3 c4 hop h0 h4 hm hlo hlh hhi
  have yt1 : W1.cell? ⟨bt, 1, none⟩ = some (.int .i64 t.f1) := (blk_cell (HP.out.get 0 rfl) 1).trans rfl
  have yt2 : W1.cell? ⟨bt, 2, none⟩ = some (.int .i64 t.f2) := (blk_cell (HP.out.get 0 rfl) 2).trans rfl
  have yt3 : W1.cell? ⟨bt, 3, none⟩ = some (.int .i64 t.f3) := (blk_cell (HP.out.get 0 rfl) 3).trans rfl
  obtain ⟨sl, hsl⟩ : ∃ s, s = sb (Lib.itoa t.f2) := ⟨_, rfl⟩
  have Hsl := Aside0.mk hsl
  clear hsl
  have Ssl := Aside0.mk (show sl.size ≤ 21 by rw [Hsl.out, sb_size]; exact itoa_len _ (by have := LO.out; omega) (by have := LO.out; omega))
  obtain ⟨sh, hsh⟩ : ∃ s, s = sb (Lib.itoa t.f3) := ⟨_, rfl⟩
  have Hsh := Aside0.mk hsh
  clear hsh
  have Ssh := Aside0.mk (show sh.size ≤ 21 by rw [Hsh.out, sb_size]; exact itoa_len _ (by have := LO.out; omega) (by have := LO.out; omega))
  have WT := Aside0.mk (show sb (wt t) = (if t.f1 = 0 then sb [110] else (sb [110] ++ (sb [37] ++ sb (Lib.itoa t.f1)))) ++ (sb [61] ++ sl) ++ (if t.f3 = t.f2 then sb [] else (sb [46, 46] ++ sh)) by rw [Hsl.out, Hsh.out]; unfold wt; split <;> split <;> simp only [sb_app, List.append_assoc, List.cons_append, List.nil_append, List.append_nil])
  by_cases c8 : t.f1 = 0
  case pos =>
    have AC := Aside0.mk (show (if t.f1 = 0 then sb [110] else (sb [110] ++ (sb [37] ++ sb (Lib.itoa t.f1)))) = (⟨#[110]⟩ : ByteArray) by rw [if_pos c8])
    have ca : (t.f1 == 0) = true := beq_iff_eq.2 c8
    have cb : (t.f1 != 0) = false := bne_eq_false_iff_eq.2 c8
    clear c8
    go_upto_region 12 with (fail)
    have Sac := Aside0.mk (show (⟨#[110]⟩ : ByteArray).size ≤ 50 by decide)
    generalize (⟨#[110]⟩ : ByteArray) = ac at AC Sac ⊢
    clear yt0 yt1 yt2 yt3
    have za1 : (9223372036854775807 < 1 + sl.size) = False := eq_false (by have := Ssl.out; have := Sac.out; omega)
    have za2 : (9223372036854775807 < (⟨#[61]⟩ : ByteArray).size + sl.size) = False := eq_false (by have := Ssl.out; have := Sac.out; have e1 : (⟨#[61]⟩ : ByteArray).size = 1 := rfl; omega)
    have za3 : (9223372036854775807 < (ac : ByteArray).size + (1 + sl.size)) = False := eq_false (by have := Ssl.out; have := Sac.out; omega)
    have za4 : (9223372036854775807 < (ac : ByteArray).size + (⟨#[61]⟩ ++ sl : ByteArray).size) = False := eq_false (by rw [ByteArray.size_append]; have := Ssl.out; have := Sac.out; have e1 : (⟨#[61]⟩ : ByteArray).size = 1 := rfl; skip; omega)
    have za5 : (9223372036854775807 < (ac : ByteArray).size + (⟨#[61]⟩ ++ sl : ByteArray).size) = False := eq_false (by rw [ByteArray.size_append]; have := Ssl.out; have := Sac.out; have e1 : (⟨#[61]⟩ : ByteArray).size = 1 := rfl; omega)
    have zax := Aside0.mk trivial
    have yp2 : W1.cell? ⟨bt, 2, none⟩ = some (.int .i64 t.f2) := (blk_cell (HP.out.get 0 rfl) 2).trans rfl
    go_upto_region 13 with (go_at_call 29; refine (Shelf.Tryd.strconv_Itoa t.f2 (by have := LO.out; have := MM.out; omega) (by have := LO.out; have := MM.out; omega) _ (HT.out.below HP.out.B).tab).mono ?_; rintro e W3 ⟨he, k5, os5, hw5⟩; have hb : Below _ _ W3 := (by rw [hw5]; exact Lib.below_grow _ _ (Nat.le_refl _) _ _); clear hw5; replace he := he.trans (show _ = Ending.returned (.string sl) by rw [Hsl.out]); subst he; have n0 := Aside0.mk (HP.out.below hb); clear HP; have HP := n0; clear n0; clear hb; have yq2 : W3.cell? ⟨bt, 2, none⟩ = some (.int .i64 t.f2) := (blk_cell (HP.out.get 0 rfl) 2).trans rfl; have yq3 : W3.cell? ⟨bt, 3, none⟩ = some (.int .i64 t.f3) := (blk_cell (HP.out.get 0 rfl) 3).trans rfl)
    clear yp2 za1 za2 za3 za4 za5
    have AD := Aside0.mk (show (ac ++ (⟨#[61]⟩ ++ sl) : ByteArray).size ≤ 200 by rw [ByteArray.size_append, ByteArray.size_append]; have e1 : (⟨#[61]⟩ : ByteArray).size = 1 := rfl; have := Sac.out; have := Ssl.out; omega)
    have AE := Aside0.mk (show sb (wt t) = (ac ++ (⟨#[61]⟩ ++ sl)) ++ (if t.f3 = t.f2 then sb [] else (sb [46, 46] ++ sh)) by rw [WT.out, AC.out])
    generalize (ac ++ (⟨#[61]⟩ ++ sl) : ByteArray) = s2 at AD AE ⊢
    have Ss2 := AD
    by_cases c9 : t.f3 = t.f2
    case pos =>
      have AF := Aside0.mk AE.out
      have AG := Aside0.mk (show sb (wt t) = s2 by rw [AE.out, if_pos c9]; exact (by apply ByteArray.ext; simp [ByteArray.data_append]))
      have ca : (t.f3 == t.f2) = true := beq_iff_eq.2 c9
      have cb : (t.f3 != t.f2) = false := bne_eq_false_iff_eq.2 c9
      clear c9
      go_wp2_with fail
      go_ret
      exact ⟨by rw [EX.out, AG.out]; rfl, HP.out.B⟩
    have AG := Aside0.mk (show sb (wt t) = s2 ++ (⟨#[46, 46]⟩ ++ sh) by rw [AE.out, if_neg c9])
    have ca : (t.f3 == t.f2) = false := beq_eq_false_iff_ne.2 c9
    have cb : (t.f3 != t.f2) = true := bne_iff_ne.2 c9
    clear c9
    have zb1 : (9223372036854775807 < 2 + sh.size) = False := eq_false (by have := Ssh.out; have := Ss2.out; omega)
    have zb2 : (9223372036854775807 < (⟨#[46, 46]⟩ : ByteArray).size + sh.size) = False := eq_false (by have := Ssh.out; have := Ss2.out; have e1 : (⟨#[46, 46]⟩ : ByteArray).size = 2 := rfl; omega)
    have zb3 : (9223372036854775807 < (s2 : ByteArray).size + (2 + sh.size)) = False := eq_false (by have := Ssh.out; have := Ss2.out; omega)
    have zb4 : (9223372036854775807 < (s2 : ByteArray).size + (⟨#[46, 46]⟩ ++ sh : ByteArray).size) = False := eq_false (by rw [ByteArray.size_append]; have := Ssh.out; have := Ss2.out; have e1 : (⟨#[46, 46]⟩ : ByteArray).size = 2 := rfl; skip; omega)
    have zb5 : (9223372036854775807 < (s2 : ByteArray).size + (⟨#[46, 46]⟩ ++ sh : ByteArray).size) = False := eq_false (by rw [ByteArray.size_append]; have := Ssh.out; have := Ss2.out; have e1 : (⟨#[46, 46]⟩ : ByteArray).size = 2 := rfl; omega)
    have zbx := Aside0.mk trivial
    go_wp2_with (go_at_call 29; refine (Shelf.Tryd.strconv_Itoa t.f3 (by have := LO.out; have := MM.out; omega) (by have := LO.out; have := MM.out; omega) _ (HT.out.below HP.out.B).tab).mono ?_; rintro e W4 ⟨he, k5, os5, hw5⟩; have hb : Below _ _ W4 := (by rw [hw5]; exact Lib.below_grow _ _ (Nat.le_refl _) _ _); clear hw5; replace he := he.trans (show _ = Ending.returned (.string sh) by rw [Hsh.out]); subst he; have n0 := Aside0.mk (HP.out.below hb); clear HP; have HP := n0; clear n0; clear hb; skip)
    go_ret
    exact ⟨by rw [EX.out, AG.out]; rfl, HP.out.B⟩
  case neg =>
    obtain ⟨sm, hsm⟩ : ∃ s, s = sb (Lib.itoa t.f1) := ⟨_, rfl⟩
    have Hsm := Aside0.mk hsm
    clear hsm
    have Ssm := Aside0.mk (show sm.size ≤ 21 by rw [Hsm.out, sb_size]; exact itoa_len _ (by have := MM.out; omega) (by have := MM.out; omega))
    have AC := Aside0.mk (show (if t.f1 = 0 then sb [110] else (sb [110] ++ (sb [37] ++ sb (Lib.itoa t.f1)))) = (⟨#[110]⟩ ++ (⟨#[37]⟩ ++ sm) : ByteArray) by rw [if_neg c8, Hsm.out])
    have ca : (t.f1 == 0) = false := beq_eq_false_iff_ne.2 c8
    have cb : (t.f1 != 0) = true := bne_iff_ne.2 c8
    clear c8
    have zc1 : (9223372036854775807 < 1 + sm.size) = False := eq_false (by have := Ssm.out; omega)
    have zc2 : (9223372036854775807 < (⟨#[37]⟩ : ByteArray).size + sm.size) = False := eq_false (by have := Ssm.out; have e1 : (⟨#[37]⟩ : ByteArray).size = 1 := rfl; omega)
    have zc3 : (9223372036854775807 < 1 + (1 + sm.size)) = False := eq_false (by have := Ssm.out; omega)
    have zc4 : (9223372036854775807 < (⟨#[110]⟩ : ByteArray).size + (⟨#[37]⟩ ++ sm : ByteArray).size) = False := eq_false (by rw [ByteArray.size_append]; have := Ssm.out; have e1 : (⟨#[37]⟩ : ByteArray).size = 1 := rfl; have e2 : (⟨#[110]⟩ : ByteArray).size = 1 := rfl; omega)
    have zc5 : (9223372036854775807 < 1 + (⟨#[37]⟩ ++ sm : ByteArray).size) = False := eq_false (by rw [ByteArray.size_append]; have := Ssm.out; have e1 : (⟨#[37]⟩ : ByteArray).size = 1 := rfl; omega)
    have zcx := Aside0.mk trivial
    go_upto_region 12 with (go_at_call 29; refine (Shelf.Tryd.strconv_Itoa t.f1 (by have := LO.out; have := MM.out; omega) (by have := LO.out; have := MM.out; omega) _ (HT.out.below HP.out.B).tab).mono ?_; rintro e W2 ⟨he, k5, os5, hw5⟩; have hb : Below _ _ W2 := (by rw [hw5]; exact Lib.below_grow _ _ (Nat.le_refl _) _ _); clear hw5; replace he := he.trans (show _ = Ending.returned (.string sm) by rw [Hsm.out]); subst he; have n0 := Aside0.mk (HP.out.below hb); clear HP; have HP := n0; clear n0; clear hb; skip)
    have Sac := Aside0.mk (show (⟨#[110]⟩ ++ (⟨#[37]⟩ ++ sm) : ByteArray).size ≤ 50 by rw [ByteArray.size_append, ByteArray.size_append]; have e1 : (⟨#[110]⟩ : ByteArray).size = 1 := rfl; have e2 : (⟨#[37]⟩ : ByteArray).size = 1 := rfl; have := Ssm.out; omega)
    generalize (⟨#[110]⟩ ++ (⟨#[37]⟩ ++ sm) : ByteArray) = ac at AC Sac ⊢
    clear yt0 yt1 yt2 yt3 zc1 zc2 zc3 zc4 zc5
    have za1 : (9223372036854775807 < 1 + sl.size) = False := eq_false (by have := Ssl.out; have := Sac.out; omega)
    have za2 : (9223372036854775807 < (⟨#[61]⟩ : ByteArray).size + sl.size) = False := eq_false (by have := Ssl.out; have := Sac.out; have e1 : (⟨#[61]⟩ : ByteArray).size = 1 := rfl; omega)
    have za3 : (9223372036854775807 < (ac : ByteArray).size + (1 + sl.size)) = False := eq_false (by have := Ssl.out; have := Sac.out; omega)
    have za4 : (9223372036854775807 < (ac : ByteArray).size + (⟨#[61]⟩ ++ sl : ByteArray).size) = False := eq_false (by rw [ByteArray.size_append]; have := Ssl.out; have := Sac.out; have e1 : (⟨#[61]⟩ : ByteArray).size = 1 := rfl; skip; omega)
    have za5 : (9223372036854775807 < (ac : ByteArray).size + (⟨#[61]⟩ ++ sl : ByteArray).size) = False := eq_false (by rw [ByteArray.size_append]; have := Ssl.out; have := Sac.out; have e1 : (⟨#[61]⟩ : ByteArray).size = 1 := rfl; omega)
    have zax := Aside0.mk trivial
    have yp2 : W2.cell? ⟨bt, 2, none⟩ = some (.int .i64 t.f2) := (blk_cell (HP.out.get 0 rfl) 2).trans rfl
    go_upto_region 13 with (go_at_call 29; refine (Shelf.Tryd.strconv_Itoa t.f2 (by have := LO.out; have := MM.out; omega) (by have := LO.out; have := MM.out; omega) _ (HT.out.below HP.out.B).tab).mono ?_; rintro e W3 ⟨he, k5, os5, hw5⟩; have hb : Below _ _ W3 := (by rw [hw5]; exact Lib.below_grow _ _ (Nat.le_refl _) _ _); clear hw5; replace he := he.trans (show _ = Ending.returned (.string sl) by rw [Hsl.out]); subst he; have n0 := Aside0.mk (HP.out.below hb); clear HP; have HP := n0; clear n0; clear hb; have yq2 : W3.cell? ⟨bt, 2, none⟩ = some (.int .i64 t.f2) := (blk_cell (HP.out.get 0 rfl) 2).trans rfl; have yq3 : W3.cell? ⟨bt, 3, none⟩ = some (.int .i64 t.f3) := (blk_cell (HP.out.get 0 rfl) 3).trans rfl)
    clear yp2 za1 za2 za3 za4 za5
    have AD := Aside0.mk (show (ac ++ (⟨#[61]⟩ ++ sl) : ByteArray).size ≤ 200 by rw [ByteArray.size_append, ByteArray.size_append]; have e1 : (⟨#[61]⟩ : ByteArray).size = 1 := rfl; have := Sac.out; have := Ssl.out; omega)
    have AE := Aside0.mk (show sb (wt t) = (ac ++ (⟨#[61]⟩ ++ sl)) ++ (if t.f3 = t.f2 then sb [] else (sb [46, 46] ++ sh)) by rw [WT.out, AC.out])
    generalize (ac ++ (⟨#[61]⟩ ++ sl) : ByteArray) = s2 at AD AE ⊢
    have Ss2 := AD
    by_cases c9 : t.f3 = t.f2
    case pos =>
      have AF := Aside0.mk AE.out
      have AG := Aside0.mk (show sb (wt t) = s2 by rw [AE.out, if_pos c9]; exact (by apply ByteArray.ext; simp [ByteArray.data_append]))
      have ca : (t.f3 == t.f2) = true := beq_iff_eq.2 c9
      have cb : (t.f3 != t.f2) = false := bne_eq_false_iff_eq.2 c9
      clear c9
      go_wp2_with fail
      go_ret
      exact ⟨by rw [EX.out, AG.out]; rfl, HP.out.B⟩
    have AG := Aside0.mk (show sb (wt t) = s2 ++ (⟨#[46, 46]⟩ ++ sh) by rw [AE.out, if_neg c9])
    have ca : (t.f3 == t.f2) = false := beq_eq_false_iff_ne.2 c9
    have cb : (t.f3 != t.f2) = true := bne_iff_ne.2 c9
    clear c9
    have zb1 : (9223372036854775807 < 2 + sh.size) = False := eq_false (by have := Ssh.out; have := Ss2.out; omega)
    have zb2 : (9223372036854775807 < (⟨#[46, 46]⟩ : ByteArray).size + sh.size) = False := eq_false (by have := Ssh.out; have := Ss2.out; have e1 : (⟨#[46, 46]⟩ : ByteArray).size = 2 := rfl; omega)
    have zb3 : (9223372036854775807 < (s2 : ByteArray).size + (2 + sh.size)) = False := eq_false (by have := Ssh.out; have := Ss2.out; omega)
    have zb4 : (9223372036854775807 < (s2 : ByteArray).size + (⟨#[46, 46]⟩ ++ sh : ByteArray).size) = False := eq_false (by rw [ByteArray.size_append]; have := Ssh.out; have := Ss2.out; have e1 : (⟨#[46, 46]⟩ : ByteArray).size = 2 := rfl; skip; omega)
    have zb5 : (9223372036854775807 < (s2 : ByteArray).size + (⟨#[46, 46]⟩ ++ sh : ByteArray).size) = False := eq_false (by rw [ByteArray.size_append]; have := Ssh.out; have := Ss2.out; have e1 : (⟨#[46, 46]⟩ : ByteArray).size = 2 := rfl; omega)
    have zbx := Aside0.mk trivial
    go_wp2_with (go_at_call 29; refine (Shelf.Tryd.strconv_Itoa t.f3 (by have := LO.out; have := MM.out; omega) (by have := LO.out; have := MM.out; omega) _ (HT.out.below HP.out.B).tab).mono ?_; rintro e W4 ⟨he, k5, os5, hw5⟩; have hb : Below _ _ W4 := (by rw [hw5]; exact Lib.below_grow _ _ (Nat.le_refl _) _ _); clear hw5; replace he := he.trans (show _ = Ending.returned (.string sh) by rw [Hsh.out]); subst he; have n0 := Aside0.mk (HP.out.below hb); clear HP; have HP := n0; clear n0; clear hb; skip)
    go_ret
    exact ⟨by rw [EX.out, AG.out]; rfl, HP.out.B⟩
end Go.Proofs.YtilmjckpphlniaaDoor.PRuleRound
