-- Made for this claim by a program of this session (xprint.py over the kit's printing program); Lean checks it.
import Derived.Test.YthagabjcoknogaaPImageFitsx0
import Derived.Test.YthagabjcoknogaaPImageFitsx4
namespace Go.Proofs.Ythagabjcoknogaa.PImageFits
open Go.RowKit Go.Proofs.YthagabjcoknogaaW.PrintWords Go.Proofs.YthagabjcoknogaaW.PrintLast Go.Proofs.YthagabjcoknogaaW.PrintMore
attribute [local go_sem] max2_int min2_int max_two min_two max_three min_three max_four min_four   -- for this text's walks alone
set_option linter.unusedVariables false
set_option linter.unusedSimpArgs false

/-! ### asset_Render: function 10 -/
mutual
def asset_Render.j0 : Nat → Bool → Int → Int → List Int → Int → Int → Int → Int → Int → Int → Option (Int × Int × List Int × Int)
  | 0, _, _, _, _, _, _, _, _, _, _ => none
  | k + 1, x22, x123000, x123001, x123002, x124000, x124001, x124002, x124003, x124004, x124005 => if x22 = true then (some (0, 0, ([] : List Int), 2)) else (if x124002 > x123000 then (asset_Render.j1 k true x123000 x123001 x123002 x124000 x124001 x124002 x124003 x124004 x124005) else (if x124000 > (wrap64 (x123000 - x124002)) then (asset_Render.j1 k true x123000 x123001 x123002 x124000 x124001 x124002 x124003 x124004 x124005) else (if x124003 > x123001 then (asset_Render.j1 k true x123000 x123001 x123002 x124000 x124001 x124002 x124003 x124004 x124005) else (asset_Render.j1 k (decide (x124001 > (wrap64 (x123001 - x124003)))) x123000 x123001 x123002 x124000 x124001 x124002 x124003 x124004 x124005))))
def asset_Render.j1 : Nat → Bool → Int → Int → List Int → Int → Int → Int → Int → Int → Int → Option (Int × Int × List Int × Int)
  | 0, _, _, _, _, _, _, _, _, _, _ => none
  | k + 1, x22, x123000, x123001, x123002, x124000, x124001, x124002, x124003, x124004, x124005 => if x22 = true then (some (0, 0, ([] : List Int), 2)) else (if x124004 < 1 then (some (0, 0, ([] : List Int), 2)) else (if x124004 > x124002 then (some (0, 0, ([] : List Int), 2)) else (if x124005 < 1 then (some (0, 0, ([] : List Int), 2)) else (if x124005 > x124003 then (some (0, 0, ([] : List Int), 2)) else (asset_Render.l0 k (wrap64 (x124002 * x124003)) x124005 0 x123000 x123001 x123002 x124000 x124001 x124002 x124003 x124004 x124005 x124004 x124005 ([] : List Int))))))
def asset_Render.l0 : Nat → Int → Int → Int → Int → Int → List Int → Int → Int → Int → Int → Int → Int → Int → Int → List Int → Option (Int × Int × List Int × Int)
  | 0, _, _, _, _, _, _, _, _, _, _, _, _, _, _, _ => none
  | k + 1, x8, x107, x108, x123000, x123001, x123002, x124000, x124001, x124002, x124003, x124004, x124005, x127000, x127001, x127002 => if x108 < x107 then (asset_Render.l1 k x8 x108 x107 x108 x124004 0 x123000 x123001 x123002 x124000 x124001 x124002 x124003 x124004 x124005 x127000 x127001 x127002) else (some (x127000, x127001, x127002, 0))
def asset_Render.l1 : Nat → Int → Int → Int → Int → Int → Int → Int → Int → List Int → Int → Int → Int → Int → Int → Int → Int → Int → List Int → Option (Int × Int × List Int × Int)
  | 0, _, _, _, _, _, _, _, _, _, _, _, _, _, _, _, _, _, _ => none
  | k + 1, x8, x9, x107, x108, x112, x113, x123000, x123001, x123002, x124000, x124001, x124002, x124003, x124004, x124005, x127000, x127001, x127002 => if x113 < x112 then (if x124005 = 0 then (none) else (asset_Render.l2 k x8 x9 x113 0 (wrap64 (Int.tdiv (wrap64 (x9 * x124003)) x124005)) x107 x108 x112 x113 x123000 x123001 x123002 x124000 x124001 x124002 x124003 x124004 x124005 x127000 x127001 x127002)) else (asset_Render.l0 k x8 x107 (wrap64 (x108 + 1)) x123000 x123001 x123002 x124000 x124001 x124002 x124003 x124004 x124005 x127000 x127001 x127002)
def asset_Render.l2 : Nat → Int → Int → Int → Int → Int → Int → Int → Int → Int → Int → Int → List Int → Int → Int → Int → Int → Int → Int → Int → Int → List Int → Option (Int × Int × List Int × Int)
  | 0, _, _, _, _, _, _, _, _, _, _, _, _, _, _, _, _, _, _, _, _, _ => none
  | k + 1, x8, x9, x10, x11, x12, x107, x108, x112, x113, x123000, x123001, x123002, x124000, x124001, x124002, x124003, x124004, x124005, x127000, x127001, x127002 => if x12 < x124003 then (asset_Render.j5 k x8 x9 x10 x11 x12 x107 x108 x112 x113 (decide ((wrap64 (x12 * x124005)) < (wrap64 ((wrap64 (x9 + 1)) * x124003)))) x123000 x123001 x123002 x124000 x124001 x124002 x124003 x124004 x124005 x127000 x127001 x127002) else (asset_Render.j5 k x8 x9 x10 x11 x12 x107 x108 x112 x113 false x123000 x123001 x123002 x124000 x124001 x124002 x124003 x124004 x124005 x127000 x127001 x127002)
def asset_Render.j5 : Nat → Int → Int → Int → Int → Int → Int → Int → Int → Int → Bool → Int → Int → List Int → Int → Int → Int → Int → Int → Int → Int → Int → List Int → Option (Int × Int × List Int × Int)
  | 0, _, _, _, _, _, _, _, _, _, _, _, _, _, _, _, _, _, _, _, _, _, _ => none
  | k + 1, x8, x9, x10, x11, x12, x107, x108, x112, x113, x138, x123000, x123001, x123002, x124000, x124001, x124002, x124003, x124004, x124005, x127000, x127001, x127002 => if x138 = true then ((asset_overlap.f (wrap64 (x12 * x124005)) (wrap64 ((wrap64 (x12 + 1)) * x124005)) (wrap64 (x9 * x124003)) (wrap64 ((wrap64 (x9 + 1)) * x124003))).bind fun t130 => (if x124004 = 0 then (none) else (asset_Render.l3 k x8 x9 x10 x11 x12 t130 (wrap64 (Int.tdiv (wrap64 (x10 * x124002)) x124004)) x107 x108 x112 x113 x123000 x123001 x123002 x124000 x124001 x124002 x124003 x124004 x124005 x127000 x127001 x127002))) else (if (wrap64 (2 * x8)) = 0 then (none) else (if x127002.length < 17592186044416 then (asset_Render.l1 k x8 x9 x107 x108 x112 (wrap64 (x113 + 1)) x123000 x123001 x123002 x124000 x124001 x124002 x124003 x124004 x124005 x127000 x127001 (x127002 ++ [wrap64 (Int.tdiv (wrap64 ((wrap64 (2 * x11)) + x8)) (wrap64 (2 * x8)))])) else (none)))
def asset_Render.l3 : Nat → Int → Int → Int → Int → Int → Int → Int → Int → Int → Int → Int → Int → Int → List Int → Int → Int → Int → Int → Int → Int → Int → Int → List Int → Option (Int × Int × List Int × Int)
  | 0, _, _, _, _, _, _, _, _, _, _, _, _, _, _, _, _, _, _, _, _, _, _, _ => none
  | k + 1, x8, x9, x10, x11, x12, x13, x14, x107, x108, x112, x113, x123000, x123001, x123002, x124000, x124001, x124002, x124003, x124004, x124005, x127000, x127001, x127002 => if x14 < x124002 then (if (wrap64 (x14 * x124004)) < (wrap64 ((wrap64 (x10 + 1)) * x124002)) then ((asset_overlap.f (wrap64 (x14 * x124004)) (wrap64 ((wrap64 (x14 + 1)) * x124004)) (wrap64 (x10 * x124002)) (wrap64 ((wrap64 (x10 + 1)) * x124002))).bind fun t131 => (if 0 ≤ (wrap64 ((wrap64 ((wrap64 ((wrap64 (x124001 + x12)) * x123000)) + x124000)) + x14)) then (if (wrap64 ((wrap64 ((wrap64 ((wrap64 (x124001 + x12)) * x123000)) + x124000)) + x14)) < (x123002.length : Int) then (asset_Render.l3 k x8 x9 x10 (wrap64 (x11 + (wrap64 ((wrap64 (x13 * t131)) * (rd x123002 (wrap64 ((wrap64 ((wrap64 ((wrap64 (x124001 + x12)) * x123000)) + x124000)) + x14))))))) x12 x13 (wrap64 (x14 + 1)) x107 x108 x112 x113 x123000 x123001 x123002 x124000 x124001 x124002 x124003 x124004 x124005 x127000 x127001 x127002) else (none)) else (none))) else (asset_Render.l2 k x8 x9 x10 x11 (wrap64 (x12 + 1)) x107 x108 x112 x113 x123000 x123001 x123002 x124000 x124001 x124002 x124003 x124004 x124005 x127000 x127001 x127002)) else (asset_Render.l2 k x8 x9 x10 x11 (wrap64 (x12 + 1)) x107 x108 x112 x113 x123000 x123001 x123002 x124000 x124001 x124002 x124003 x124004 x124005 x127000 x127001 x127002)
end
def asset_Render.f (k : Nat) (a0_0 : Int) (a0_1 : Int) (l0_2 : List Int) (a1_0 : Int) (a1_1 : Int) (a1_2 : Int) (a1_3 : Int) (a1_4 : Int) (a1_5 : Int) : Option (Int × Int × List Int × Int) := (asset_CheckImage.f k a0_0 a0_1 l0_2).bind fun t125 => (if t125 = 0 then (if a1_0 < 0 then (asset_Render.j0 k true a0_0 a0_1 l0_2 a1_0 a1_1 a1_2 a1_3 a1_4 a1_5) else (if a1_1 < 0 then (asset_Render.j0 k true a0_0 a0_1 l0_2 a1_0 a1_1 a1_2 a1_3 a1_4 a1_5) else (if a1_2 < 1 then (asset_Render.j0 k true a0_0 a0_1 l0_2 a1_0 a1_1 a1_2 a1_3 a1_4 a1_5) else (asset_Render.j0 k (decide (a1_3 < 1)) a0_0 a0_1 l0_2 a1_0 a1_1 a1_2 a1_3 a1_4 a1_5)))) else (some (0, 0, ([] : List Int), t125)))
theorem asset_Render.mono_l : ∀ k, (∀ y0 y1 y2 y3 y4 y5 y6 y7 y8 y9, LeO (asset_Render.j0 k y0 y1 y2 y3 y4 y5 y6 y7 y8 y9) (asset_Render.j0 (k + 1) y0 y1 y2 y3 y4 y5 y6 y7 y8 y9)) ∧ (∀ y0 y1 y2 y3 y4 y5 y6 y7 y8 y9, LeO (asset_Render.j1 k y0 y1 y2 y3 y4 y5 y6 y7 y8 y9) (asset_Render.j1 (k + 1) y0 y1 y2 y3 y4 y5 y6 y7 y8 y9)) ∧ (∀ y0 y1 y2 y3 y4 y5 y6 y7 y8 y9 y10 y11 y12 y13 y14, LeO (asset_Render.l0 k y0 y1 y2 y3 y4 y5 y6 y7 y8 y9 y10 y11 y12 y13 y14) (asset_Render.l0 (k + 1) y0 y1 y2 y3 y4 y5 y6 y7 y8 y9 y10 y11 y12 y13 y14)) ∧ (∀ y0 y1 y2 y3 y4 y5 y6 y7 y8 y9 y10 y11 y12 y13 y14 y15 y16 y17, LeO (asset_Render.l1 k y0 y1 y2 y3 y4 y5 y6 y7 y8 y9 y10 y11 y12 y13 y14 y15 y16 y17) (asset_Render.l1 (k + 1) y0 y1 y2 y3 y4 y5 y6 y7 y8 y9 y10 y11 y12 y13 y14 y15 y16 y17)) ∧ (∀ y0 y1 y2 y3 y4 y5 y6 y7 y8 y9 y10 y11 y12 y13 y14 y15 y16 y17 y18 y19 y20, LeO (asset_Render.l2 k y0 y1 y2 y3 y4 y5 y6 y7 y8 y9 y10 y11 y12 y13 y14 y15 y16 y17 y18 y19 y20) (asset_Render.l2 (k + 1) y0 y1 y2 y3 y4 y5 y6 y7 y8 y9 y10 y11 y12 y13 y14 y15 y16 y17 y18 y19 y20)) ∧ (∀ y0 y1 y2 y3 y4 y5 y6 y7 y8 y9 y10 y11 y12 y13 y14 y15 y16 y17 y18 y19 y20 y21, LeO (asset_Render.j5 k y0 y1 y2 y3 y4 y5 y6 y7 y8 y9 y10 y11 y12 y13 y14 y15 y16 y17 y18 y19 y20 y21) (asset_Render.j5 (k + 1) y0 y1 y2 y3 y4 y5 y6 y7 y8 y9 y10 y11 y12 y13 y14 y15 y16 y17 y18 y19 y20 y21)) ∧ (∀ y0 y1 y2 y3 y4 y5 y6 y7 y8 y9 y10 y11 y12 y13 y14 y15 y16 y17 y18 y19 y20 y21 y22, LeO (asset_Render.l3 k y0 y1 y2 y3 y4 y5 y6 y7 y8 y9 y10 y11 y12 y13 y14 y15 y16 y17 y18 y19 y20 y21 y22) (asset_Render.l3 (k + 1) y0 y1 y2 y3 y4 y5 y6 y7 y8 y9 y10 y11 y12 y13 y14 y15 y16 y17 y18 y19 y20 y21 y22))
  | 0 => ⟨fun _ _ _ _ _ _ _ _ _ _ r h => by simp [asset_Render.j0] at h, fun _ _ _ _ _ _ _ _ _ _ r h => by simp [asset_Render.j1] at h, fun _ _ _ _ _ _ _ _ _ _ _ _ _ _ _ r h => by simp [asset_Render.l0] at h, fun _ _ _ _ _ _ _ _ _ _ _ _ _ _ _ _ _ _ r h => by simp [asset_Render.l1] at h, fun _ _ _ _ _ _ _ _ _ _ _ _ _ _ _ _ _ _ _ _ _ r h => by simp [asset_Render.l2] at h, fun _ _ _ _ _ _ _ _ _ _ _ _ _ _ _ _ _ _ _ _ _ _ r h => by simp [asset_Render.j5] at h, fun _ _ _ _ _ _ _ _ _ _ _ _ _ _ _ _ _ _ _ _ _ _ _ r h => by simp [asset_Render.l3] at h⟩
  | k + 1 => by
    obtain ⟨ih0, ih1, ih2, ih3, ih4, ih5, ih6⟩ := asset_Render.mono_l k
    refine ⟨?_, ?_, ?_, ?_, ?_, ?_, ?_⟩
    · intro y0 y1 y2 y3 y4 y5 y6 y7 y8 y9
      unfold asset_Render.j0
      repeat' first
      | (with_reducible exact ih0 _ _ _ _ _ _ _ _ _ _)
      | (with_reducible exact ih1 _ _ _ _ _ _ _ _ _ _)
      | (with_reducible exact ih2 _ _ _ _ _ _ _ _ _ _ _ _ _ _ _)
      | (with_reducible exact ih3 _ _ _ _ _ _ _ _ _ _ _ _ _ _ _ _ _ _)
      | (with_reducible exact ih4 _ _ _ _ _ _ _ _ _ _ _ _ _ _ _ _ _ _ _ _ _)
      | (with_reducible exact ih5 _ _ _ _ _ _ _ _ _ _ _ _ _ _ _ _ _ _ _ _ _ _)
      | (with_reducible exact ih6 _ _ _ _ _ _ _ _ _ _ _ _ _ _ _ _ _ _ _ _ _ _ _)
      | (with_reducible exact asset_CheckImage.mono _ _ _ _)
      | (with_reducible exact LeO.refl _)
      | (with_reducible exact LeO.none _)
      | (with_reducible refine LeO.ite ?_ ?_)
      | (with_reducible refine LeO.bind ?_ (fun _ => ?_))
      | exact ih0 _ _ _ _ _ _ _ _ _ _
      | exact ih1 _ _ _ _ _ _ _ _ _ _
      | exact ih2 _ _ _ _ _ _ _ _ _ _ _ _ _ _ _
      | exact ih3 _ _ _ _ _ _ _ _ _ _ _ _ _ _ _ _ _ _
      | exact ih4 _ _ _ _ _ _ _ _ _ _ _ _ _ _ _ _ _ _ _ _ _
      | exact ih5 _ _ _ _ _ _ _ _ _ _ _ _ _ _ _ _ _ _ _ _ _ _
      | exact ih6 _ _ _ _ _ _ _ _ _ _ _ _ _ _ _ _ _ _ _ _ _ _ _
      | exact asset_CheckImage.mono _ _ _ _
      | exact LeO.none _
      | refine LeO.ite ?_ ?_
      | refine LeO.bind ?_ (fun _ => ?_)
    · intro y0 y1 y2 y3 y4 y5 y6 y7 y8 y9
      unfold asset_Render.j1
      repeat' first
      | (with_reducible exact ih0 _ _ _ _ _ _ _ _ _ _)
      | (with_reducible exact ih1 _ _ _ _ _ _ _ _ _ _)
      | (with_reducible exact ih2 _ _ _ _ _ _ _ _ _ _ _ _ _ _ _)
      | (with_reducible exact ih3 _ _ _ _ _ _ _ _ _ _ _ _ _ _ _ _ _ _)
      | (with_reducible exact ih4 _ _ _ _ _ _ _ _ _ _ _ _ _ _ _ _ _ _ _ _ _)
      | (with_reducible exact ih5 _ _ _ _ _ _ _ _ _ _ _ _ _ _ _ _ _ _ _ _ _ _)
      | (with_reducible exact ih6 _ _ _ _ _ _ _ _ _ _ _ _ _ _ _ _ _ _ _ _ _ _ _)
      | (with_reducible exact asset_CheckImage.mono _ _ _ _)
      | (with_reducible exact LeO.refl _)
      | (with_reducible exact LeO.none _)
      | (with_reducible refine LeO.ite ?_ ?_)
      | (with_reducible refine LeO.bind ?_ (fun _ => ?_))
      | exact ih0 _ _ _ _ _ _ _ _ _ _
      | exact ih1 _ _ _ _ _ _ _ _ _ _
      | exact ih2 _ _ _ _ _ _ _ _ _ _ _ _ _ _ _
      | exact ih3 _ _ _ _ _ _ _ _ _ _ _ _ _ _ _ _ _ _
      | exact ih4 _ _ _ _ _ _ _ _ _ _ _ _ _ _ _ _ _ _ _ _ _
      | exact ih5 _ _ _ _ _ _ _ _ _ _ _ _ _ _ _ _ _ _ _ _ _ _
      | exact ih6 _ _ _ _ _ _ _ _ _ _ _ _ _ _ _ _ _ _ _ _ _ _ _
      | exact asset_CheckImage.mono _ _ _ _
      | exact LeO.none _
      | refine LeO.ite ?_ ?_
      | refine LeO.bind ?_ (fun _ => ?_)
    · intro y0 y1 y2 y3 y4 y5 y6 y7 y8 y9 y10 y11 y12 y13 y14
      unfold asset_Render.l0
      repeat' first
      | (with_reducible exact ih0 _ _ _ _ _ _ _ _ _ _)
      | (with_reducible exact ih1 _ _ _ _ _ _ _ _ _ _)
      | (with_reducible exact ih2 _ _ _ _ _ _ _ _ _ _ _ _ _ _ _)
      | (with_reducible exact ih3 _ _ _ _ _ _ _ _ _ _ _ _ _ _ _ _ _ _)
      | (with_reducible exact ih4 _ _ _ _ _ _ _ _ _ _ _ _ _ _ _ _ _ _ _ _ _)
      | (with_reducible exact ih5 _ _ _ _ _ _ _ _ _ _ _ _ _ _ _ _ _ _ _ _ _ _)
      | (with_reducible exact ih6 _ _ _ _ _ _ _ _ _ _ _ _ _ _ _ _ _ _ _ _ _ _ _)
      | (with_reducible exact asset_CheckImage.mono _ _ _ _)
      | (with_reducible exact LeO.refl _)
      | (with_reducible exact LeO.none _)
      | (with_reducible refine LeO.ite ?_ ?_)
      | (with_reducible refine LeO.bind ?_ (fun _ => ?_))
      | exact ih0 _ _ _ _ _ _ _ _ _ _
      | exact ih1 _ _ _ _ _ _ _ _ _ _
      | exact ih2 _ _ _ _ _ _ _ _ _ _ _ _ _ _ _
      | exact ih3 _ _ _ _ _ _ _ _ _ _ _ _ _ _ _ _ _ _
      | exact ih4 _ _ _ _ _ _ _ _ _ _ _ _ _ _ _ _ _ _ _ _ _
      | exact ih5 _ _ _ _ _ _ _ _ _ _ _ _ _ _ _ _ _ _ _ _ _ _
      | exact ih6 _ _ _ _ _ _ _ _ _ _ _ _ _ _ _ _ _ _ _ _ _ _ _
      | exact asset_CheckImage.mono _ _ _ _
      | exact LeO.none _
      | refine LeO.ite ?_ ?_
      | refine LeO.bind ?_ (fun _ => ?_)
    · intro y0 y1 y2 y3 y4 y5 y6 y7 y8 y9 y10 y11 y12 y13 y14 y15 y16 y17
      unfold asset_Render.l1
      repeat' first
      | (with_reducible exact ih0 _ _ _ _ _ _ _ _ _ _)
      | (with_reducible exact ih1 _ _ _ _ _ _ _ _ _ _)
      | (with_reducible exact ih2 _ _ _ _ _ _ _ _ _ _ _ _ _ _ _)
      | (with_reducible exact ih3 _ _ _ _ _ _ _ _ _ _ _ _ _ _ _ _ _ _)
      | (with_reducible exact ih4 _ _ _ _ _ _ _ _ _ _ _ _ _ _ _ _ _ _ _ _ _)
      | (with_reducible exact ih5 _ _ _ _ _ _ _ _ _ _ _ _ _ _ _ _ _ _ _ _ _ _)
      | (with_reducible exact ih6 _ _ _ _ _ _ _ _ _ _ _ _ _ _ _ _ _ _ _ _ _ _ _)
      | (with_reducible exact asset_CheckImage.mono _ _ _ _)
      | (with_reducible exact LeO.refl _)
      | (with_reducible exact LeO.none _)
      | (with_reducible refine LeO.ite ?_ ?_)
      | (with_reducible refine LeO.bind ?_ (fun _ => ?_))
      | exact ih0 _ _ _ _ _ _ _ _ _ _
      | exact ih1 _ _ _ _ _ _ _ _ _ _
      | exact ih2 _ _ _ _ _ _ _ _ _ _ _ _ _ _ _
      | exact ih3 _ _ _ _ _ _ _ _ _ _ _ _ _ _ _ _ _ _
      | exact ih4 _ _ _ _ _ _ _ _ _ _ _ _ _ _ _ _ _ _ _ _ _
      | exact ih5 _ _ _ _ _ _ _ _ _ _ _ _ _ _ _ _ _ _ _ _ _ _
      | exact ih6 _ _ _ _ _ _ _ _ _ _ _ _ _ _ _ _ _ _ _ _ _ _ _
      | exact asset_CheckImage.mono _ _ _ _
      | exact LeO.none _
      | refine LeO.ite ?_ ?_
      | refine LeO.bind ?_ (fun _ => ?_)
    · intro y0 y1 y2 y3 y4 y5 y6 y7 y8 y9 y10 y11 y12 y13 y14 y15 y16 y17 y18 y19 y20
      unfold asset_Render.l2
      repeat' first
      | (with_reducible exact ih0 _ _ _ _ _ _ _ _ _ _)
      | (with_reducible exact ih1 _ _ _ _ _ _ _ _ _ _)
      | (with_reducible exact ih2 _ _ _ _ _ _ _ _ _ _ _ _ _ _ _)
      | (with_reducible exact ih3 _ _ _ _ _ _ _ _ _ _ _ _ _ _ _ _ _ _)
      | (with_reducible exact ih4 _ _ _ _ _ _ _ _ _ _ _ _ _ _ _ _ _ _ _ _ _)
      | (with_reducible exact ih5 _ _ _ _ _ _ _ _ _ _ _ _ _ _ _ _ _ _ _ _ _ _)
      | (with_reducible exact ih6 _ _ _ _ _ _ _ _ _ _ _ _ _ _ _ _ _ _ _ _ _ _ _)
      | (with_reducible exact asset_CheckImage.mono _ _ _ _)
      | (with_reducible exact LeO.refl _)
      | (with_reducible exact LeO.none _)
      | (with_reducible refine LeO.ite ?_ ?_)
      | (with_reducible refine LeO.bind ?_ (fun _ => ?_))
      | exact ih0 _ _ _ _ _ _ _ _ _ _
      | exact ih1 _ _ _ _ _ _ _ _ _ _
      | exact ih2 _ _ _ _ _ _ _ _ _ _ _ _ _ _ _
      | exact ih3 _ _ _ _ _ _ _ _ _ _ _ _ _ _ _ _ _ _
      | exact ih4 _ _ _ _ _ _ _ _ _ _ _ _ _ _ _ _ _ _ _ _ _
      | exact ih5 _ _ _ _ _ _ _ _ _ _ _ _ _ _ _ _ _ _ _ _ _ _
      | exact ih6 _ _ _ _ _ _ _ _ _ _ _ _ _ _ _ _ _ _ _ _ _ _ _
      | exact asset_CheckImage.mono _ _ _ _
      | exact LeO.none _
      | refine LeO.ite ?_ ?_
      | refine LeO.bind ?_ (fun _ => ?_)
    · intro y0 y1 y2 y3 y4 y5 y6 y7 y8 y9 y10 y11 y12 y13 y14 y15 y16 y17 y18 y19 y20 y21
      unfold asset_Render.j5
      repeat' first
      | (with_reducible exact ih0 _ _ _ _ _ _ _ _ _ _)
      | (with_reducible exact ih1 _ _ _ _ _ _ _ _ _ _)
      | (with_reducible exact ih2 _ _ _ _ _ _ _ _ _ _ _ _ _ _ _)
      | (with_reducible exact ih3 _ _ _ _ _ _ _ _ _ _ _ _ _ _ _ _ _ _)
      | (with_reducible exact ih4 _ _ _ _ _ _ _ _ _ _ _ _ _ _ _ _ _ _ _ _ _)
      | (with_reducible exact ih5 _ _ _ _ _ _ _ _ _ _ _ _ _ _ _ _ _ _ _ _ _ _)
      | (with_reducible exact ih6 _ _ _ _ _ _ _ _ _ _ _ _ _ _ _ _ _ _ _ _ _ _ _)
      | (with_reducible exact asset_CheckImage.mono _ _ _ _)
      | (with_reducible exact LeO.refl _)
      | (with_reducible exact LeO.none _)
      | (with_reducible refine LeO.ite ?_ ?_)
      | (with_reducible refine LeO.bind ?_ (fun _ => ?_))
      | exact ih0 _ _ _ _ _ _ _ _ _ _
      | exact ih1 _ _ _ _ _ _ _ _ _ _
      | exact ih2 _ _ _ _ _ _ _ _ _ _ _ _ _ _ _
      | exact ih3 _ _ _ _ _ _ _ _ _ _ _ _ _ _ _ _ _ _
      | exact ih4 _ _ _ _ _ _ _ _ _ _ _ _ _ _ _ _ _ _ _ _ _
      | exact ih5 _ _ _ _ _ _ _ _ _ _ _ _ _ _ _ _ _ _ _ _ _ _
      | exact ih6 _ _ _ _ _ _ _ _ _ _ _ _ _ _ _ _ _ _ _ _ _ _ _
      | exact asset_CheckImage.mono _ _ _ _
      | exact LeO.none _
      | refine LeO.ite ?_ ?_
      | refine LeO.bind ?_ (fun _ => ?_)
    · intro y0 y1 y2 y3 y4 y5 y6 y7 y8 y9 y10 y11 y12 y13 y14 y15 y16 y17 y18 y19 y20 y21 y22
      unfold asset_Render.l3
      repeat' first
      | (with_reducible exact ih0 _ _ _ _ _ _ _ _ _ _)
      | (with_reducible exact ih1 _ _ _ _ _ _ _ _ _ _)
      | (with_reducible exact ih2 _ _ _ _ _ _ _ _ _ _ _ _ _ _ _)
      | (with_reducible exact ih3 _ _ _ _ _ _ _ _ _ _ _ _ _ _ _ _ _ _)
      | (with_reducible exact ih4 _ _ _ _ _ _ _ _ _ _ _ _ _ _ _ _ _ _ _ _ _)
      | (with_reducible exact ih5 _ _ _ _ _ _ _ _ _ _ _ _ _ _ _ _ _ _ _ _ _ _)
      | (with_reducible exact ih6 _ _ _ _ _ _ _ _ _ _ _ _ _ _ _ _ _ _ _ _ _ _ _)
      | (with_reducible exact asset_CheckImage.mono _ _ _ _)
      | (with_reducible exact LeO.refl _)
      | (with_reducible exact LeO.none _)
      | (with_reducible refine LeO.ite ?_ ?_)
      | (with_reducible refine LeO.bind ?_ (fun _ => ?_))
      | exact ih0 _ _ _ _ _ _ _ _ _ _
      | exact ih1 _ _ _ _ _ _ _ _ _ _
      | exact ih2 _ _ _ _ _ _ _ _ _ _ _ _ _ _ _
      | exact ih3 _ _ _ _ _ _ _ _ _ _ _ _ _ _ _ _ _ _
      | exact ih4 _ _ _ _ _ _ _ _ _ _ _ _ _ _ _ _ _ _ _ _ _
      | exact ih5 _ _ _ _ _ _ _ _ _ _ _ _ _ _ _ _ _ _ _ _ _ _
      | exact ih6 _ _ _ _ _ _ _ _ _ _ _ _ _ _ _ _ _ _ _ _ _ _ _
      | exact asset_CheckImage.mono _ _ _ _
      | exact LeO.none _
      | refine LeO.ite ?_ ?_
      | refine LeO.bind ?_ (fun _ => ?_)
theorem asset_Render.mono : ∀ a0 a1 a2 a3 a4 a5 a6 a7 a8 k, LeO (asset_Render.f k a0 a1 a2 a3 a4 a5 a6 a7 a8) (asset_Render.f (k + 1) a0 a1 a2 a3 a4 a5 a6 a7 a8) := by
  intro a0 a1 a2 a3 a4 a5 a6 a7 a8 k
  obtain ⟨ih0, ih1, ih2, ih3, ih4, ih5, ih6⟩ := asset_Render.mono_l k
  unfold asset_Render.f
  repeat' first
      | (with_reducible exact ih0 _ _ _ _ _ _ _ _ _ _)
      | (with_reducible exact ih1 _ _ _ _ _ _ _ _ _ _)
      | (with_reducible exact ih2 _ _ _ _ _ _ _ _ _ _ _ _ _ _ _)
      | (with_reducible exact ih3 _ _ _ _ _ _ _ _ _ _ _ _ _ _ _ _ _ _)
      | (with_reducible exact ih4 _ _ _ _ _ _ _ _ _ _ _ _ _ _ _ _ _ _ _ _ _)
      | (with_reducible exact ih5 _ _ _ _ _ _ _ _ _ _ _ _ _ _ _ _ _ _ _ _ _ _)
      | (with_reducible exact ih6 _ _ _ _ _ _ _ _ _ _ _ _ _ _ _ _ _ _ _ _ _ _ _)
      | (with_reducible exact asset_CheckImage.mono _ _ _ _)
      | (with_reducible exact LeO.refl _)
      | (with_reducible exact LeO.none _)
      | (with_reducible refine LeO.ite ?_ ?_)
      | (with_reducible refine LeO.bind ?_ (fun _ => ?_))
      | exact ih0 _ _ _ _ _ _ _ _ _ _
      | exact ih1 _ _ _ _ _ _ _ _ _ _
      | exact ih2 _ _ _ _ _ _ _ _ _ _ _ _ _ _ _
      | exact ih3 _ _ _ _ _ _ _ _ _ _ _ _ _ _ _ _ _ _
      | exact ih4 _ _ _ _ _ _ _ _ _ _ _ _ _ _ _ _ _ _ _ _ _
      | exact ih5 _ _ _ _ _ _ _ _ _ _ _ _ _ _ _ _ _ _ _ _ _ _
      | exact ih6 _ _ _ _ _ _ _ _ _ _ _ _ _ _ _ _ _ _ _ _ _ _ _
      | exact asset_CheckImage.mono _ _ _ _
      | exact LeO.none _
      | refine LeO.ite ?_ ?_
      | refine LeO.bind ?_ (fun _ => ?_)
def asset_Render.T26 : Bool × List (List Nat × List Nat) := (true, [([], []), ([0], [0]), ([], []), ([2], [2]), ([], []), ([3, 4], [3, 4]), ([], []), ([6], [6]), ([5, 7], [5, 7]), ([8], [8]), ([1, 9], [1, 9]), ([0, 1, 2, 3, 4, 5, 6, 7, 8, 9, 10], []), ([11, 10, 10, 0, 1, 2, 3, 4, 5, 6, 7, 8, 9, 10], [10, 11])])
def asset_Render.B26 : List Nat := [0, 1, 0, 4, 0, 28, 0, 64, 252, 508, 1023, 2047, 4095]
theorem asset_Render.tab26 : rtab .any (opsOf Try.f10 26) = asset_Render.T26 := by kernel_rfl
theorem asset_Render.bits26 : waitsOk asset_Render.T26.2 asset_Render.B26 = true := by kernel_rfl
set_option maxHeartbeats 8000000 in
set_option maxRecDepth 100000 in
theorem asset_Render.calls (k : Nat) (a0_0 : Int) (a0_1 : Int) (A0_2 : Option Addr) (c0_2 : Nat) (l0_2 : List Int) (a1_0 : Int) (a1_1 : Int) (a1_2 : Int) (a1_3 : Int) (a1_4 : Int) (a1_5 : Int) (r1 : Int) (r2 : Int) (r3 : List Int) (r4 : Int) (w : World) (hr0_2 : Kd.C (Kd.int .i64) w A0_2 l0_2.length l0_2) (hc0_2 : l0_2.length ≤ c0_2) (h : asset_Render.f k a0_0 a0_1 l0_2 a1_0 a1_1 a1_2 a1_3 a1_4 a1_5 = some (r1, r2, r3, r4)) :
    Calls Try.prog 10 #[.agg #[.int .i64 a0_0, .int .i64 a0_1, .slice A0_2 l0_2.length c0_2], .agg #[.int .i64 a1_0, .int .i64 a1_1, .int .i64 a1_2, .int .i64 a1_3, .int .i64 a1_4, .int .i64 a1_5]] w fun e w' => ∃ v2_ : Value, e = .returned (.tuple #[.agg #[.int .i64 r1, .int .i64 r2, v2_], .int .i64 r4]) ∧ Kd.R (Kd.int .i64) 3 w' w.heap.size (fun _ => True) v2_ r3 ∧ Below w.heap.size w w' := by
  have hu29 := Try.underlying29
  have hu33 := Try.underlying33
  have HR0_2 := Aside0.mk hr0_2
  have HC0_2 := Aside0.mk hc0_2
  clear hr0_2 hc0_2
  have HB := Aside0.mk (Below.refl w.heap.size w)
  have H : ((asset_CheckImage.f k a0_0 a0_1 l0_2).bind fun t125 => (if t125 = 0 then (if a1_0 < 0 then (asset_Render.j0 k true a0_0 a0_1 l0_2 a1_0 a1_1 a1_2 a1_3 a1_4 a1_5) else (if a1_1 < 0 then (asset_Render.j0 k true a0_0 a0_1 l0_2 a1_0 a1_1 a1_2 a1_3 a1_4 a1_5) else (if a1_2 < 1 then (asset_Render.j0 k true a0_0 a0_1 l0_2 a1_0 a1_1 a1_2 a1_3 a1_4 a1_5) else (asset_Render.j0 k (decide (a1_3 < 1)) a0_0 a0_1 l0_2 a1_0 a1_1 a1_2 a1_3 a1_4 a1_5)))) else (some (0, 0, ([] : List Int), t125)))) = some (r1, r2, r3, r4) := h
  clear h
  replace H := Option.bind_eq_some_iff.mp H
  obtain ⟨t125, A30, H⟩ := H
  replace H : (if t125 = 0 then (if a1_0 < 0 then (asset_Render.j0 k true a0_0 a0_1 l0_2 a1_0 a1_1 a1_2 a1_3 a1_4 a1_5) else (if a1_1 < 0 then (asset_Render.j0 k true a0_0 a0_1 l0_2 a1_0 a1_1 a1_2 a1_3 a1_4 a1_5) else (if a1_2 < 1 then (asset_Render.j0 k true a0_0 a0_1 l0_2 a1_0 a1_1 a1_2 a1_3 a1_4 a1_5) else (asset_Render.j0 k (decide (a1_3 < 1)) a0_0 a0_1 l0_2 a1_0 a1_1 a1_2 a1_3 a1_4 a1_5)))) else (some (0, 0, ([] : List Int), t125))) = some (r1, r2, r3, r4) := H
  have A3 := Aside0.mk A30
  clear A30
  by_cases c4 : t125 = 0
  · rw [if_pos c4] at H
    have c4b0 : (t125 == 0) = true := beq_iff_eq.mpr c4
    have c4b1 : (t125 != 0) = false := bne_eq_false_iff_eq.mpr c4
    clear c4
    have HC5 := Aside0.mk H
    clear H
    go_enter Try.func10, Try.ntmps10
    go_upto_region 4 with (first | ((with_reducible refine gate_dst (N := 2) rfl ?_); refine box_event ?hg (N := 2) ?hd (cs := #[.int .i64 a0_0, .int .i64 a0_1, .slice A0_2 l0_2.length c0_2]) (t := 29) ?hr ?_; (case hd => rfl); (case hg => rfl); (case hr => first | (go_simp; done) | (go_simp; rfl)); intro gb122 hg w6 hbox hb; have n0_ := Aside0.mk (below_step (by repeat (first | (with_reducible first | exact HB.out | apply below_alloc | apply pw_below_drewN | apply below_drew1) | exact HB.out)) hb); have n1_ := Aside0.mk (hbox); have n2_ := Aside0.mk ((by rw [hg]; exact (below_size (by repeat (first | (with_reducible first | exact HB.out | apply below_alloc | apply pw_below_drewN | apply below_drew1) | exact HB.out))) : w.heap.size ≤ gb122)); have n3_ := Aside0.mk ((by rw [hg]; exact (below_size (by repeat (first | (with_reducible first | exact HB.out | apply below_alloc | apply pw_below_drewN | apply below_drew1) | exact HB.out))) : w.heap.size ≤ gb122)); clear HB; have HB := n0_; have BK122 := n1_; have GW122 := n2_; have GE122 := n3_; clear n0_ n1_ n2_ n3_; clear hb hbox hg) | ((with_reducible refine gate_dst (N := 3) rfl ?_); refine box_event ?hg (N := 3) ?hd (cs := #[.int .i64 a1_0, .int .i64 a1_1, .int .i64 a1_2, .int .i64 a1_3, .int .i64 a1_4, .int .i64 a1_5]) (t := 33) ?hr ?_; (case hd => rfl); (case hg => rfl); (case hr => first | (go_simp; done) | (go_simp; rfl)); intro gb123 hg w7 hbox hb; have n0_ := Aside0.mk (blk_below (g := gb122) (o := .cells #[.int .i64 a0_0, .int .i64 a0_1, .slice A0_2 l0_2.length c0_2] 29 (0, 0)) (by (with_reducible repeat (first | refine blk_drewN ?_ _ | refine blk_drew ?_ | refine blk_alloc ?_ _)); exact BK122.out) hb); have n1_ := Aside0.mk (below_step (by repeat (first | (with_reducible first | exact HB.out | apply below_alloc | apply pw_below_drewN | apply below_drew1 | refine below_set ?_ GE122.out) | exact HB.out)) hb); have n2_ := Aside0.mk (hbox); have n3_ := Aside0.mk ((by rw [hg]; exact (below_size (by repeat (first | (with_reducible first | exact HB.out | apply below_alloc | apply pw_below_drewN | apply below_drew1 | refine below_set ?_ GE122.out) | exact HB.out))) : w.heap.size ≤ gb123)); have n4_ := Aside0.mk ((by rw [hg]; exact (below_size (by repeat (first | (with_reducible first | exact HB.out | apply below_alloc | apply pw_below_drewN | apply below_drew1 | refine below_set ?_ GE122.out) | exact HB.out))) : w.heap.size ≤ gb123)); have n5_ := Aside0.mk ((by rw [hg]; exact Nat.ne_of_lt (blk_lt (g := gb122) (o := .cells #[.int .i64 a0_0, .int .i64 a0_1, .slice A0_2 l0_2.length c0_2] 29 (0, 0)) (by (with_reducible repeat (first | refine blk_drewN ?_ _ | refine blk_drew ?_ | refine blk_alloc ?_ _)); exact BK122.out)) : gb122 ≠ gb123)); have n6_ := Aside0.mk ((by rw [hg]; exact Nat.ne_of_gt (blk_lt (g := gb122) (o := .cells #[.int .i64 a0_0, .int .i64 a0_1, .slice A0_2 l0_2.length c0_2] 29 (0, 0)) (by (with_reducible repeat (first | refine blk_drewN ?_ _ | refine blk_drew ?_ | refine blk_alloc ?_ _)); exact BK122.out)) : gb123 ≠ gb122)); clear BK122; clear HB; have BK122 := n0_; have HB := n1_; have BK123 := n2_; have GW123 := n3_; have GE123 := n4_; have NB122_123 := n5_; have NB123_122 := n6_; clear n0_ n1_ n2_ n3_ n4_ n5_ n6_; clear hb hbox hg) | ((with_reducible refine gate_dst (N := 4) rfl ?_); refine box_event ?hg (N := 4) ?hd (cs := #[.int .i64 0, .int .i64 0, .slice none 0 0]) (t := 29) ?hr ?_; (case hd => rfl); (case hg => rfl); (case hr => first | (go_simp; done) | (go_simp; rfl)); intro gb124 hg w8 hbox hb; have n0_ := Aside0.mk (blk_below (g := gb122) (o := .cells #[.int .i64 a0_0, .int .i64 a0_1, .slice A0_2 l0_2.length c0_2] 29 (0, 0)) (by (with_reducible repeat (first | refine blk_drewN ?_ _ | refine blk_drew ?_ | refine blk_alloc ?_ _)); exact BK122.out) hb); have n1_ := Aside0.mk (blk_below (g := gb123) (o := .cells #[.int .i64 a1_0, .int .i64 a1_1, .int .i64 a1_2, .int .i64 a1_3, .int .i64 a1_4, .int .i64 a1_5] 33 (0, 0)) (by (with_reducible repeat (first | refine blk_drewN ?_ _ | refine blk_drew ?_ | refine blk_alloc ?_ _)); exact BK123.out) hb); have n2_ := Aside0.mk (below_step (by repeat (first | (with_reducible first | exact HB.out | apply below_alloc | apply pw_below_drewN | apply below_drew1 | refine below_set ?_ GE122.out | refine below_set ?_ GE123.out) | exact HB.out)) hb); have n3_ := Aside0.mk (hbox); have n4_ := Aside0.mk ((by rw [hg]; exact (below_size (by repeat (first | (with_reducible first | exact HB.out | apply below_alloc | apply pw_below_drewN | apply below_drew1 | refine below_set ?_ GE122.out | refine below_set ?_ GE123.out) | exact HB.out))) : w.heap.size ≤ gb124)); have n5_ := Aside0.mk ((by rw [hg]; exact (below_size (by repeat (first | (with_reducible first | exact HB.out | apply below_alloc | apply pw_below_drewN | apply below_drew1 | refine below_set ?_ GE122.out | refine below_set ?_ GE123.out) | exact HB.out))) : w.heap.size ≤ gb124)); have n6_ := Aside0.mk ((by rw [hg]; exact Nat.ne_of_lt (blk_lt (g := gb122) (o := .cells #[.int .i64 a0_0, .int .i64 a0_1, .slice A0_2 l0_2.length c0_2] 29 (0, 0)) (by (with_reducible repeat (first | refine blk_drewN ?_ _ | refine blk_drew ?_ | refine blk_alloc ?_ _)); exact BK122.out)) : gb122 ≠ gb124)); have n7_ := Aside0.mk ((by rw [hg]; exact Nat.ne_of_gt (blk_lt (g := gb122) (o := .cells #[.int .i64 a0_0, .int .i64 a0_1, .slice A0_2 l0_2.length c0_2] 29 (0, 0)) (by (with_reducible repeat (first | refine blk_drewN ?_ _ | refine blk_drew ?_ | refine blk_alloc ?_ _)); exact BK122.out)) : gb124 ≠ gb122)); have n8_ := Aside0.mk ((by rw [hg]; exact Nat.ne_of_lt (blk_lt (g := gb123) (o := .cells #[.int .i64 a1_0, .int .i64 a1_1, .int .i64 a1_2, .int .i64 a1_3, .int .i64 a1_4, .int .i64 a1_5] 33 (0, 0)) (by (with_reducible repeat (first | refine blk_drewN ?_ _ | refine blk_drew ?_ | refine blk_alloc ?_ _)); exact BK123.out)) : gb123 ≠ gb124)); have n9_ := Aside0.mk ((by rw [hg]; exact Nat.ne_of_gt (blk_lt (g := gb123) (o := .cells #[.int .i64 a1_0, .int .i64 a1_1, .int .i64 a1_2, .int .i64 a1_3, .int .i64 a1_4, .int .i64 a1_5] 33 (0, 0)) (by (with_reducible repeat (first | refine blk_drewN ?_ _ | refine blk_drew ?_ | refine blk_alloc ?_ _)); exact BK123.out)) : gb124 ≠ gb123)); clear BK122; clear BK123; clear HB; have BK122 := n0_; have BK123 := n1_; have HB := n2_; have BK124 := n3_; have GW124 := n4_; have GE124 := n5_; have NB122_124 := n6_; have NB124_122 := n7_; have NB123_124 := n8_; have NB124_123 := n9_; clear n0_ n1_ n2_ n3_ n4_ n5_ n6_ n7_ n8_ n9_; clear hb hbox hg; have hnb9 := NB122_123.out; have hnc9 := NB123_122.out; have hnb10 := NB122_124.out; have hnc10 := NB124_122.out; have hcz11_0 : w8.cell? ⟨gb122, 0, none⟩ = some (.int .i64 a0_0) := (blk_cell BK122.out 0).trans rfl; have hcz11_1 : w8.cell? ⟨gb122, 1, none⟩ = some (.int .i64 a0_1) := (blk_cell BK122.out 1).trans rfl; have hcz11_2 : w8.cell? ⟨gb122, 2, none⟩ = some (.slice A0_2 l0_2.length c0_2) := (blk_cell BK122.out 2).trans rfl; have hfz11_0 := blk_frozen BK122.out 0; have hfz11_1 := blk_frozen BK122.out 1; have hfz11_2 := blk_frozen BK122.out 2) | ((with_reducible refine gate_callee (f := 11) rfl ?_); refine goesL_ (some 17) rfl rfl Try.func11 (by kernel_rfl) rfl #[.agg #[.int .i64 a0_0, .int .i64 a0_1, .slice A0_2 l0_2.length c0_2]] rfl (by (try simp only [List.map_toArray, List.map_cons, List.map_nil]); first | done | rfl | (simp only [List.length_drop, List.length_take]; rfl)) ?_; (with_reducible refine (asset_CheckImage.calls k a0_0 a0_1 _ _ l0_2 t125 _ ?side1 ?side2 A3.out).mono ?_); (case side1 => repeat (first | exact (Kd.C_below HR0_2.out HB.out) | (with_reducible refine Kd.C_alloc ?_ _) | (with_reducible refine Kd.C_drewN ?_ _) | (with_reducible refine Kd.C_drew ?_))); (case side2 => exact HC0_2.out); rintro e w12 ⟨rfl, hb⟩; refine ⟨_, rfl, ?_⟩; have n0_ := Aside0.mk (blk_below (g := gb122) (o := .cells #[.int .i64 a0_0, .int .i64 a0_1, .slice A0_2 l0_2.length c0_2] 29 (0, 0)) (by (with_reducible repeat (first | refine blk_drewN ?_ _ | refine blk_drew ?_ | refine blk_alloc ?_ _)); exact BK122.out) hb); have n1_ := Aside0.mk (blk_below (g := gb123) (o := .cells #[.int .i64 a1_0, .int .i64 a1_1, .int .i64 a1_2, .int .i64 a1_3, .int .i64 a1_4, .int .i64 a1_5] 33 (0, 0)) (by (with_reducible repeat (first | refine blk_drewN ?_ _ | refine blk_drew ?_ | refine blk_alloc ?_ _)); exact BK123.out) hb); have n2_ := Aside0.mk (blk_below (g := gb124) (o := .cells #[.int .i64 0, .int .i64 0, .slice none 0 0] 29 (0, 0)) (by (with_reducible repeat (first | refine blk_drewN ?_ _ | refine blk_drew ?_ | refine blk_alloc ?_ _)); exact BK124.out) hb); have n3_ := Aside0.mk (below_step (by repeat (first | (with_reducible first | exact HB.out | apply below_alloc | apply pw_below_drewN | apply below_drew1 | refine below_set ?_ GE122.out | refine below_set ?_ GE123.out | refine below_set ?_ GE124.out) | exact HB.out)) hb); clear BK122; clear BK123; clear BK124; clear HB; have BK122 := n0_; have BK123 := n1_; have BK124 := n2_; have HB := n3_; clear n0_ n1_ n2_ n3_; (try clear hb); (try clear hb2); (try clear hk); (try clear hi)))
    (try simp only [Act.put, List.setIfInBounds_toArray, List.set_cons_zero, List.set_cons_succ])
    go_cut [22] (fun v22 wc => ∃ (kq : Nat) (x22_4 : Bool), v22 = .bool x22_4 ∧ Aside0 (asset_Render.j0 kq x22_4 a0_0 a0_1 l0_2 a1_0 a1_1 a1_2 a1_3 a1_4 a1_5 = some (r1, r2, r3, r4)) ∧ Aside0 (kq ≤ k) ∧ Aside0 (wc.heap[gb122]? = some (.cells #[.int .i64 a0_0, .int .i64 a0_1, (.slice A0_2 l0_2.length c0_2)] 29 (0, 0))) ∧ Aside0 (wc.heap[gb123]? = some (.cells #[.int .i64 a1_0, .int .i64 a1_1, .int .i64 a1_2, .int .i64 a1_3, .int .i64 a1_4, .int .i64 a1_5] 33 (0, 0))) ∧ Aside0 (wc.heap[gb124]? = some (.cells #[.int .i64 0, .int .i64 0, (.slice none 0 0)] 29 (0, 0))) ∧ Aside0 (Below w.heap.size w wc))
    case first => as_aux_lemma =>
      have H := HC5.out
      clear HC5
      by_cases c13 : a1_0 < 0
      · rw [if_pos c13] at H
        have c13b0 : decide (a1_0 < 0) = true := decide_eq_true c13
        clear c13
        (first | rw [c13b0] | (simp only [i64_w, i32_w]; rw [c13b0]) | skip)
        have H' := Aside0.mk H
        clear H
        have hnb14 := NB123_122.out
        have hnc14 := NB122_123.out
        have hnb15 := NB123_124.out
        have hnc15 := NB124_123.out
        have hcz16_0 : w12.cell? ⟨gb123, 0, none⟩ = some (.int .i64 a1_0) := (blk_cell BK123.out 0).trans rfl
        have hcz16_1 : w12.cell? ⟨gb123, 1, none⟩ = some (.int .i64 a1_1) := (blk_cell BK123.out 1).trans rfl
        have hcz16_2 : w12.cell? ⟨gb123, 2, none⟩ = some (.int .i64 a1_2) := (blk_cell BK123.out 2).trans rfl
        have hcz16_3 : w12.cell? ⟨gb123, 3, none⟩ = some (.int .i64 a1_3) := (blk_cell BK123.out 3).trans rfl
        have hcz16_4 : w12.cell? ⟨gb123, 4, none⟩ = some (.int .i64 a1_4) := (blk_cell BK123.out 4).trans rfl
        have hcz16_5 : w12.cell? ⟨gb123, 5, none⟩ = some (.int .i64 a1_5) := (blk_cell BK123.out 5).trans rfl
        have hfz16_0 := blk_frozen BK123.out 0
        have hfz16_1 := blk_frozen BK123.out 1
        have hfz16_2 := blk_frozen BK123.out 2
        have hfz16_3 := blk_frozen BK123.out 3
        have hfz16_4 := blk_frozen BK123.out 4
        have hfz16_5 := blk_frozen BK123.out 5
        go_wp2
        go_meet
        case rel => exact ⟨_, (true), (by first | rfl | (simp; done) | (simp [*]; done)), H', ⟨by first | omega | exact Nat.le_refl _⟩, ⟨by (with_reducible repeat (first | refine blk_drewN ?_ _ | refine blk_drew ?_ | refine blk_alloc ?_ _)); exact BK122.out⟩, ⟨by (with_reducible repeat (first | refine blk_drewN ?_ _ | refine blk_drew ?_ | refine blk_alloc ?_ _)); exact BK123.out⟩, ⟨by (with_reducible repeat (first | refine blk_drewN ?_ _ | refine blk_drew ?_ | refine blk_alloc ?_ _)); exact BK124.out⟩, ⟨by repeat (first | (with_reducible first | exact HB.out | apply below_alloc | apply pw_below_drewN | apply below_drew1 | refine below_set ?_ GE122.out | refine below_set ?_ GE123.out | refine below_set ?_ GE124.out) | exact HB.out)⟩⟩
      · rw [if_neg c13] at H
        have c13b0 : decide (a1_0 < 0) = false := decide_eq_false c13
        clear c13
        (first | rw [c13b0] | (simp only [i64_w, i32_w]; rw [c13b0]) | skip)
        by_cases c17 : a1_1 < 0
        · rw [if_pos c17] at H
          have c17b0 : decide (a1_1 < 0) = true := decide_eq_true c17
          clear c17
          have H' := Aside0.mk H
          clear H
          have hnb18 := NB123_122.out
          have hnc18 := NB122_123.out
          have hnb19 := NB123_124.out
          have hnc19 := NB124_123.out
          have hcz20_0 : w12.cell? ⟨gb123, 0, none⟩ = some (.int .i64 a1_0) := (blk_cell BK123.out 0).trans rfl
          have hcz20_1 : w12.cell? ⟨gb123, 1, none⟩ = some (.int .i64 a1_1) := (blk_cell BK123.out 1).trans rfl
          have hcz20_2 : w12.cell? ⟨gb123, 2, none⟩ = some (.int .i64 a1_2) := (blk_cell BK123.out 2).trans rfl
          have hcz20_3 : w12.cell? ⟨gb123, 3, none⟩ = some (.int .i64 a1_3) := (blk_cell BK123.out 3).trans rfl
          have hcz20_4 : w12.cell? ⟨gb123, 4, none⟩ = some (.int .i64 a1_4) := (blk_cell BK123.out 4).trans rfl
          have hcz20_5 : w12.cell? ⟨gb123, 5, none⟩ = some (.int .i64 a1_5) := (blk_cell BK123.out 5).trans rfl
          have hfz20_0 := blk_frozen BK123.out 0
          have hfz20_1 := blk_frozen BK123.out 1
          have hfz20_2 := blk_frozen BK123.out 2
          have hfz20_3 := blk_frozen BK123.out 3
          have hfz20_4 := blk_frozen BK123.out 4
          have hfz20_5 := blk_frozen BK123.out 5
          go_wp2
          go_meet
          case rel => exact ⟨_, (true), (by first | rfl | (simp; done) | (simp [*]; done)), H', ⟨by first | omega | exact Nat.le_refl _⟩, ⟨by (with_reducible repeat (first | refine blk_drewN ?_ _ | refine blk_drew ?_ | refine blk_alloc ?_ _)); exact BK122.out⟩, ⟨by (with_reducible repeat (first | refine blk_drewN ?_ _ | refine blk_drew ?_ | refine blk_alloc ?_ _)); exact BK123.out⟩, ⟨by (with_reducible repeat (first | refine blk_drewN ?_ _ | refine blk_drew ?_ | refine blk_alloc ?_ _)); exact BK124.out⟩, ⟨by repeat (first | (with_reducible first | exact HB.out | apply below_alloc | apply pw_below_drewN | apply below_drew1 | refine below_set ?_ GE122.out | refine below_set ?_ GE123.out | refine below_set ?_ GE124.out) | exact HB.out)⟩⟩
        · rw [if_neg c17] at H
          have c17b0 : decide (a1_1 < 0) = false := decide_eq_false c17
          clear c17
          by_cases c21 : a1_2 < 1
          · rw [if_pos c21] at H
            have c21b0 : decide (a1_2 < 1) = true := decide_eq_true c21
            clear c21
            have H' := Aside0.mk H
            clear H
            have hnb22 := NB123_122.out
            have hnc22 := NB122_123.out
            have hnb23 := NB123_124.out
            have hnc23 := NB124_123.out
            have hcz24_0 : w12.cell? ⟨gb123, 0, none⟩ = some (.int .i64 a1_0) := (blk_cell BK123.out 0).trans rfl
            have hcz24_1 : w12.cell? ⟨gb123, 1, none⟩ = some (.int .i64 a1_1) := (blk_cell BK123.out 1).trans rfl
            have hcz24_2 : w12.cell? ⟨gb123, 2, none⟩ = some (.int .i64 a1_2) := (blk_cell BK123.out 2).trans rfl
            have hcz24_3 : w12.cell? ⟨gb123, 3, none⟩ = some (.int .i64 a1_3) := (blk_cell BK123.out 3).trans rfl
            have hcz24_4 : w12.cell? ⟨gb123, 4, none⟩ = some (.int .i64 a1_4) := (blk_cell BK123.out 4).trans rfl
            have hcz24_5 : w12.cell? ⟨gb123, 5, none⟩ = some (.int .i64 a1_5) := (blk_cell BK123.out 5).trans rfl
            have hfz24_0 := blk_frozen BK123.out 0
            have hfz24_1 := blk_frozen BK123.out 1
            have hfz24_2 := blk_frozen BK123.out 2
            have hfz24_3 := blk_frozen BK123.out 3
            have hfz24_4 := blk_frozen BK123.out 4
            have hfz24_5 := blk_frozen BK123.out 5
            go_wp2
            go_meet
            case rel => exact ⟨_, (true), (by first | rfl | (simp; done) | (simp [*]; done)), H', ⟨by first | omega | exact Nat.le_refl _⟩, ⟨by (with_reducible repeat (first | refine blk_drewN ?_ _ | refine blk_drew ?_ | refine blk_alloc ?_ _)); exact BK122.out⟩, ⟨by (with_reducible repeat (first | refine blk_drewN ?_ _ | refine blk_drew ?_ | refine blk_alloc ?_ _)); exact BK123.out⟩, ⟨by (with_reducible repeat (first | refine blk_drewN ?_ _ | refine blk_drew ?_ | refine blk_alloc ?_ _)); exact BK124.out⟩, ⟨by repeat (first | (with_reducible first | exact HB.out | apply below_alloc | apply pw_below_drewN | apply below_drew1 | refine below_set ?_ GE122.out | refine below_set ?_ GE123.out | refine below_set ?_ GE124.out) | exact HB.out)⟩⟩
          · rw [if_neg c21] at H
            have c21b0 : decide (a1_2 < 1) = false := decide_eq_false c21
            clear c21
            have H' := Aside0.mk H
            clear H
            have hnb25 := NB123_122.out
            have hnc25 := NB122_123.out
            have hnb26 := NB123_124.out
            have hnc26 := NB124_123.out
            have hcz27_0 : w12.cell? ⟨gb123, 0, none⟩ = some (.int .i64 a1_0) := (blk_cell BK123.out 0).trans rfl
            have hcz27_1 : w12.cell? ⟨gb123, 1, none⟩ = some (.int .i64 a1_1) := (blk_cell BK123.out 1).trans rfl
            have hcz27_2 : w12.cell? ⟨gb123, 2, none⟩ = some (.int .i64 a1_2) := (blk_cell BK123.out 2).trans rfl
            have hcz27_3 : w12.cell? ⟨gb123, 3, none⟩ = some (.int .i64 a1_3) := (blk_cell BK123.out 3).trans rfl
            have hcz27_4 : w12.cell? ⟨gb123, 4, none⟩ = some (.int .i64 a1_4) := (blk_cell BK123.out 4).trans rfl
            have hcz27_5 : w12.cell? ⟨gb123, 5, none⟩ = some (.int .i64 a1_5) := (blk_cell BK123.out 5).trans rfl
            have hfz27_0 := blk_frozen BK123.out 0
            have hfz27_1 := blk_frozen BK123.out 1
            have hfz27_2 := blk_frozen BK123.out 2
            have hfz27_3 := blk_frozen BK123.out 3
            have hfz27_4 := blk_frozen BK123.out 4
            have hfz27_5 := blk_frozen BK123.out 5
            go_wp2
            go_meet
            case rel => exact ⟨_, (decide (a1_3 < 1)), (by first | rfl | (simp; done) | (simp [*]; done)), H', ⟨by first | omega | exact Nat.le_refl _⟩, ⟨by (with_reducible repeat (first | refine blk_drewN ?_ _ | refine blk_drew ?_ | refine blk_alloc ?_ _)); exact BK122.out⟩, ⟨by (with_reducible repeat (first | refine blk_drewN ?_ _ | refine blk_drew ?_ | refine blk_alloc ?_ _)); exact BK123.out⟩, ⟨by (with_reducible repeat (first | refine blk_drewN ?_ _ | refine blk_drew ?_ | refine blk_alloc ?_ _)); exact BK124.out⟩, ⟨by repeat (first | (with_reducible first | exact HB.out | apply below_alloc | apply pw_below_drewN | apply below_drew1 | refine below_set ?_ GE122.out | refine below_set ?_ GE123.out | refine below_set ?_ GE124.out) | exact HB.out)⟩⟩
    case rest => as_aux_lemma =>
      clear HC5
      try clear c1
      try clear c2
      try clear p2
      try clear c4
      try clear c4b0
      try clear c4b1
      try clear c9
      try clear c10
      try clear c11
      try clear c13
      try clear c13b0
      try clear c14
      try clear c15
      try clear c17
      try clear c17b0
      try clear c18
      try clear c19
      try clear c21
      try clear c21b0
      try clear c22
      try clear c23
      try clear c25
      try clear c26
      try clear hcz11_0
      try clear hcz11_1
      try clear hcz11_2
      try clear hcz16_0
      try clear hcz16_1
      try clear hcz16_2
      try clear hcz16_3
      try clear hcz16_4
      try clear hcz16_5
      try clear hcz20_0
      try clear hcz20_1
      try clear hcz20_2
      try clear hcz20_3
      try clear hcz20_4
      try clear hcz20_5
      try clear hcz24_0
      try clear hcz24_1
      try clear hcz24_2
      try clear hcz24_3
      try clear hcz24_4
      try clear hcz24_5
      try clear hcz27_0
      try clear hcz27_1
      try clear hcz27_2
      try clear hcz27_3
      try clear hcz27_4
      try clear hcz27_5
      try clear hfz11_0
      try clear hfz11_1
      try clear hfz11_2
      try clear hfz16_0
      try clear hfz16_1
      try clear hfz16_2
      try clear hfz16_3
      try clear hfz16_4
      try clear hfz16_5
      try clear hfz20_0
      try clear hfz20_1
      try clear hfz20_2
      try clear hfz20_3
      try clear hfz20_4
      try clear hfz20_5
      try clear hfz24_0
      try clear hfz24_1
      try clear hfz24_2
      try clear hfz24_3
      try clear hfz24_4
      try clear hfz24_5
      try clear hfz27_0
      try clear hfz27_1
      try clear hfz27_2
      try clear hfz27_3
      try clear hfz27_4
      try clear hfz27_5
      obtain ⟨kq, x22_4, rfl, HA, HJ4, BK122, BK123, BK124, HB⟩ := hcut
      cases kq with
      | zero => exact absurd HA.out (by simp [asset_Render.j0])
      | succ kj4 =>
        have H := HA.out
        clear HA
        simp only [asset_Render.j0] at H
        by_cases c28 : x22_4 = true
        · subst c28
          have H1 : (some (0, 0, ([] : List Int), 2)) = some (r1, r2, r3, r4) := by rw [if_pos rfl] at H; exact H
          clear H
          have H := H1
          clear H1
          simp only [Option.some.injEq, Prod.mk.injEq] at H
          obtain ⟨rfl, rfl, rfl, rfl⟩ := H
          have hnb29 := NB124_122.out
          have hnc29 := NB122_124.out
          have hnb30 := NB124_123.out
          have hnc30 := NB123_124.out
          have hcz31_0 : wc.cell? ⟨gb124, 0, none⟩ = some (.int .i64 0) := (blk_cell BK124.out 0).trans rfl
          have hcz31_1 : wc.cell? ⟨gb124, 1, none⟩ = some (.int .i64 0) := (blk_cell BK124.out 1).trans rfl
          have hcz31_2 : wc.cell? ⟨gb124, 2, none⟩ = some (.slice none 0 0) := (blk_cell BK124.out 2).trans rfl
          have hfz31_0 := blk_frozen BK124.out 0
          have hfz31_1 := blk_frozen BK124.out 1
          have hfz31_2 := blk_frozen BK124.out 2
          go_wp2
          refine bodyPost_ret (results_ct rfl _ _ gb124 29 #[.int .i64 0, .int .i64 0, .slice none 0 0] (0, 0) _ rfl (by (with_reducible repeat (first | refine blk_drewN ?_ _ | refine blk_drew ?_ | refine blk_alloc ?_ _)); refine blk_put (cs := #[.int .i64 0, .int .i64 0, .slice none 0 0]) ?_ 2 _ rfl; (with_reducible repeat (first | refine blk_drewN ?_ _ | refine blk_drew ?_ | refine blk_alloc ?_ _)); refine blk_put (cs := #[.int .i64 0, .int .i64 0, .slice none 0 0]) ?_ 1 _ rfl; (with_reducible repeat (first | refine blk_drewN ?_ _ | refine blk_drew ?_ | refine blk_alloc ?_ _)); refine blk_put (cs := #[.int .i64 0, .int .i64 0, .slice none 0 0]) ?_ 0 _ rfl; (with_reducible repeat (first | refine blk_drewN ?_ _ | refine blk_drew ?_ | refine blk_alloc ?_ _)); exact BK124.out) Try.underlying29 rfl (by kernel_rfl)) rfl ?_
          exact ⟨_, by first | rfl | (simp [errW_none, errW_some] <;> rfl) | (simp [*, errW_none, errW_some] <;> rfl), by first | exact Kd.R_nil _ _ _ _ _ | exact Kd.N_nil _ _ _ _ _ | exact Kd.V_nil _ _ _ _ _ | exact Kd.Q_nil _ _ _ _ _ | exact Kd.S_nil _ _ _ _ _, by repeat (first | (with_reducible first | exact HB.out | apply below_alloc | apply pw_below_drewN | apply below_drew1 | refine below_set ?_ GE122.out | refine below_set ?_ GE123.out | refine below_set ?_ GE124.out) | exact HB.out)⟩
        · replace c28 := Bool.eq_false_iff.mpr c28
          subst c28
          have H1 : (if a1_2 > a0_0 then (asset_Render.j1 kj4 true a0_0 a0_1 l0_2 a1_0 a1_1 a1_2 a1_3 a1_4 a1_5) else (if a1_0 > (wrap64 (a0_0 - a1_2)) then (asset_Render.j1 kj4 true a0_0 a0_1 l0_2 a1_0 a1_1 a1_2 a1_3 a1_4 a1_5) else (if a1_3 > a0_1 then (asset_Render.j1 kj4 true a0_0 a0_1 l0_2 a1_0 a1_1 a1_2 a1_3 a1_4 a1_5) else (asset_Render.j1 kj4 (decide (a1_1 > (wrap64 (a0_1 - a1_3)))) a0_0 a0_1 l0_2 a1_0 a1_1 a1_2 a1_3 a1_4 a1_5)))) = some (r1, r2, r3, r4) := by rw [if_neg (show ¬ (false = true) by decide)] at H; exact H
          clear H
          have H := H1
          clear H1
          have HC32 := Aside0.mk H
          clear H
          go_upto_region 5 with (fail)
          go_cut [22] (fun v22 wc => ∃ (kq : Nat) (x22_31 : Bool), v22 = .bool x22_31 ∧ Aside0 (asset_Render.j1 kq x22_31 a0_0 a0_1 l0_2 a1_0 a1_1 a1_2 a1_3 a1_4 a1_5 = some (r1, r2, r3, r4)) ∧ Aside0 (kq ≤ kj4) ∧ Aside0 (wc.heap[gb122]? = some (.cells #[.int .i64 a0_0, .int .i64 a0_1, (.slice A0_2 l0_2.length c0_2)] 29 (0, 0))) ∧ Aside0 (wc.heap[gb123]? = some (.cells #[.int .i64 a1_0, .int .i64 a1_1, .int .i64 a1_2, .int .i64 a1_3, .int .i64 a1_4, .int .i64 a1_5] 33 (0, 0))) ∧ Aside0 (wc.heap[gb124]? = some (.cells #[.int .i64 0, .int .i64 0, (.slice none 0 0)] 29 (0, 0))) ∧ Aside0 (Below w.heap.size w wc))
          case first => as_aux_lemma =>
            have H := HC32.out
            clear HC32
            by_cases c33 : a1_2 > a0_0
            · rw [if_pos c33] at H
              have c33b0 : decide (a0_0 < a1_2) = true := decide_eq_true c33
              clear c33
              (first | rw [c33b0] | (simp only [i64_w, i32_w]; rw [c33b0]) | skip)
              have H' := Aside0.mk H
              clear H
              have hnb34 := NB123_122.out
              have hnc34 := NB122_123.out
              have hnb35 := NB123_124.out
              have hnc35 := NB124_123.out
              have hcz36_0 : wc.cell? ⟨gb123, 0, none⟩ = some (.int .i64 a1_0) := (blk_cell BK123.out 0).trans rfl
              have hcz36_1 : wc.cell? ⟨gb123, 1, none⟩ = some (.int .i64 a1_1) := (blk_cell BK123.out 1).trans rfl
              have hcz36_2 : wc.cell? ⟨gb123, 2, none⟩ = some (.int .i64 a1_2) := (blk_cell BK123.out 2).trans rfl
              have hcz36_3 : wc.cell? ⟨gb123, 3, none⟩ = some (.int .i64 a1_3) := (blk_cell BK123.out 3).trans rfl
              have hcz36_4 : wc.cell? ⟨gb123, 4, none⟩ = some (.int .i64 a1_4) := (blk_cell BK123.out 4).trans rfl
              have hcz36_5 : wc.cell? ⟨gb123, 5, none⟩ = some (.int .i64 a1_5) := (blk_cell BK123.out 5).trans rfl
              have hfz36_0 := blk_frozen BK123.out 0
              have hfz36_1 := blk_frozen BK123.out 1
              have hfz36_2 := blk_frozen BK123.out 2
              have hfz36_3 := blk_frozen BK123.out 3
              have hfz36_4 := blk_frozen BK123.out 4
              have hfz36_5 := blk_frozen BK123.out 5
              have hnb37 := NB122_124.out
              have hnc37 := NB124_122.out
              have hcz38_0 : wc.cell? ⟨gb122, 0, none⟩ = some (.int .i64 a0_0) := (blk_cell BK122.out 0).trans rfl
              have hcz38_1 : wc.cell? ⟨gb122, 1, none⟩ = some (.int .i64 a0_1) := (blk_cell BK122.out 1).trans rfl
              have hcz38_2 : wc.cell? ⟨gb122, 2, none⟩ = some (.slice A0_2 l0_2.length c0_2) := (blk_cell BK122.out 2).trans rfl
              have hfz38_0 := blk_frozen BK122.out 0
              have hfz38_1 := blk_frozen BK122.out 1
              have hfz38_2 := blk_frozen BK122.out 2
              go_wp2
              go_meet
              case rel => exact ⟨_, (true), (by first | rfl | (simp; done) | (simp [*]; done)), H', ⟨by have := HJ4.out; first | omega | exact Nat.le_refl _⟩, ⟨by (with_reducible repeat (first | refine blk_drewN ?_ _ | refine blk_drew ?_ | refine blk_alloc ?_ _)); exact BK122.out⟩, ⟨by (with_reducible repeat (first | refine blk_drewN ?_ _ | refine blk_drew ?_ | refine blk_alloc ?_ _)); exact BK123.out⟩, ⟨by (with_reducible repeat (first | refine blk_drewN ?_ _ | refine blk_drew ?_ | refine blk_alloc ?_ _)); exact BK124.out⟩, ⟨by repeat (first | (with_reducible first | exact HB.out | apply below_alloc | apply pw_below_drewN | apply below_drew1 | refine below_set ?_ GE122.out | refine below_set ?_ GE123.out | refine below_set ?_ GE124.out) | exact HB.out)⟩⟩
            · rw [if_neg c33] at H
              have c33b0 : decide (a0_0 < a1_2) = false := decide_eq_false c33
              clear c33
              (first | rw [c33b0] | (simp only [i64_w, i32_w]; rw [c33b0]) | skip)
              by_cases c39 : a1_0 > (wrap64 (a0_0 - a1_2))
              · rw [if_pos c39] at H
                have c39b0 : decide ((wrap64 (a0_0 - a1_2)) < a1_0) = true := decide_eq_true c39
                clear c39
                have H' := Aside0.mk H
                clear H
                have hnb40 := NB123_122.out
                have hnc40 := NB122_123.out
                have hnb41 := NB123_124.out
                have hnc41 := NB124_123.out
                have hcz42_0 : wc.cell? ⟨gb123, 0, none⟩ = some (.int .i64 a1_0) := (blk_cell BK123.out 0).trans rfl
                have hcz42_1 : wc.cell? ⟨gb123, 1, none⟩ = some (.int .i64 a1_1) := (blk_cell BK123.out 1).trans rfl
                have hcz42_2 : wc.cell? ⟨gb123, 2, none⟩ = some (.int .i64 a1_2) := (blk_cell BK123.out 2).trans rfl
                have hcz42_3 : wc.cell? ⟨gb123, 3, none⟩ = some (.int .i64 a1_3) := (blk_cell BK123.out 3).trans rfl
                have hcz42_4 : wc.cell? ⟨gb123, 4, none⟩ = some (.int .i64 a1_4) := (blk_cell BK123.out 4).trans rfl
                have hcz42_5 : wc.cell? ⟨gb123, 5, none⟩ = some (.int .i64 a1_5) := (blk_cell BK123.out 5).trans rfl
                have hfz42_0 := blk_frozen BK123.out 0
                have hfz42_1 := blk_frozen BK123.out 1
                have hfz42_2 := blk_frozen BK123.out 2
                have hfz42_3 := blk_frozen BK123.out 3
                have hfz42_4 := blk_frozen BK123.out 4
                have hfz42_5 := blk_frozen BK123.out 5
                have hnb43 := NB122_124.out
                have hnc43 := NB124_122.out
                have hcz44_0 : wc.cell? ⟨gb122, 0, none⟩ = some (.int .i64 a0_0) := (blk_cell BK122.out 0).trans rfl
                have hcz44_1 : wc.cell? ⟨gb122, 1, none⟩ = some (.int .i64 a0_1) := (blk_cell BK122.out 1).trans rfl
                have hcz44_2 : wc.cell? ⟨gb122, 2, none⟩ = some (.slice A0_2 l0_2.length c0_2) := (blk_cell BK122.out 2).trans rfl
                have hfz44_0 := blk_frozen BK122.out 0
                have hfz44_1 := blk_frozen BK122.out 1
                have hfz44_2 := blk_frozen BK122.out 2
                go_wp2
                go_meet
                case rel => exact ⟨_, (true), (by first | rfl | (simp; done) | (simp [*]; done)), H', ⟨by have := HJ4.out; first | omega | exact Nat.le_refl _⟩, ⟨by (with_reducible repeat (first | refine blk_drewN ?_ _ | refine blk_drew ?_ | refine blk_alloc ?_ _)); exact BK122.out⟩, ⟨by (with_reducible repeat (first | refine blk_drewN ?_ _ | refine blk_drew ?_ | refine blk_alloc ?_ _)); exact BK123.out⟩, ⟨by (with_reducible repeat (first | refine blk_drewN ?_ _ | refine blk_drew ?_ | refine blk_alloc ?_ _)); exact BK124.out⟩, ⟨by repeat (first | (with_reducible first | exact HB.out | apply below_alloc | apply pw_below_drewN | apply below_drew1 | refine below_set ?_ GE122.out | refine below_set ?_ GE123.out | refine below_set ?_ GE124.out) | exact HB.out)⟩⟩
              · rw [if_neg c39] at H
                have c39b0 : decide ((wrap64 (a0_0 - a1_2)) < a1_0) = false := decide_eq_false c39
                clear c39
                by_cases c45 : a1_3 > a0_1
                · rw [if_pos c45] at H
                  have c45b0 : decide (a0_1 < a1_3) = true := decide_eq_true c45
                  clear c45
                  have H' := Aside0.mk H
                  clear H
                  have hnb46 := NB123_122.out
                  have hnc46 := NB122_123.out
                  have hnb47 := NB123_124.out
                  have hnc47 := NB124_123.out
                  have hcz48_0 : wc.cell? ⟨gb123, 0, none⟩ = some (.int .i64 a1_0) := (blk_cell BK123.out 0).trans rfl
                  have hcz48_1 : wc.cell? ⟨gb123, 1, none⟩ = some (.int .i64 a1_1) := (blk_cell BK123.out 1).trans rfl
                  have hcz48_2 : wc.cell? ⟨gb123, 2, none⟩ = some (.int .i64 a1_2) := (blk_cell BK123.out 2).trans rfl
                  have hcz48_3 : wc.cell? ⟨gb123, 3, none⟩ = some (.int .i64 a1_3) := (blk_cell BK123.out 3).trans rfl
                  have hcz48_4 : wc.cell? ⟨gb123, 4, none⟩ = some (.int .i64 a1_4) := (blk_cell BK123.out 4).trans rfl
                  have hcz48_5 : wc.cell? ⟨gb123, 5, none⟩ = some (.int .i64 a1_5) := (blk_cell BK123.out 5).trans rfl
                  have hfz48_0 := blk_frozen BK123.out 0
                  have hfz48_1 := blk_frozen BK123.out 1
                  have hfz48_2 := blk_frozen BK123.out 2
                  have hfz48_3 := blk_frozen BK123.out 3
                  have hfz48_4 := blk_frozen BK123.out 4
                  have hfz48_5 := blk_frozen BK123.out 5
                  have hnb49 := NB122_124.out
                  have hnc49 := NB124_122.out
                  have hcz50_0 : wc.cell? ⟨gb122, 0, none⟩ = some (.int .i64 a0_0) := (blk_cell BK122.out 0).trans rfl
                  have hcz50_1 : wc.cell? ⟨gb122, 1, none⟩ = some (.int .i64 a0_1) := (blk_cell BK122.out 1).trans rfl
                  have hcz50_2 : wc.cell? ⟨gb122, 2, none⟩ = some (.slice A0_2 l0_2.length c0_2) := (blk_cell BK122.out 2).trans rfl
                  have hfz50_0 := blk_frozen BK122.out 0
                  have hfz50_1 := blk_frozen BK122.out 1
                  have hfz50_2 := blk_frozen BK122.out 2
                  go_wp2
                  go_meet
                  case rel => exact ⟨_, (true), (by first | rfl | (simp; done) | (simp [*]; done)), H', ⟨by have := HJ4.out; first | omega | exact Nat.le_refl _⟩, ⟨by (with_reducible repeat (first | refine blk_drewN ?_ _ | refine blk_drew ?_ | refine blk_alloc ?_ _)); exact BK122.out⟩, ⟨by (with_reducible repeat (first | refine blk_drewN ?_ _ | refine blk_drew ?_ | refine blk_alloc ?_ _)); exact BK123.out⟩, ⟨by (with_reducible repeat (first | refine blk_drewN ?_ _ | refine blk_drew ?_ | refine blk_alloc ?_ _)); exact BK124.out⟩, ⟨by repeat (first | (with_reducible first | exact HB.out | apply below_alloc | apply pw_below_drewN | apply below_drew1 | refine below_set ?_ GE122.out | refine below_set ?_ GE123.out | refine below_set ?_ GE124.out) | exact HB.out)⟩⟩
                · rw [if_neg c45] at H
                  have c45b0 : decide (a0_1 < a1_3) = false := decide_eq_false c45
                  clear c45
                  have H' := Aside0.mk H
                  clear H
                  have hnb51 := NB123_122.out
                  have hnc51 := NB122_123.out
                  have hnb52 := NB123_124.out
                  have hnc52 := NB124_123.out
                  have hcz53_0 : wc.cell? ⟨gb123, 0, none⟩ = some (.int .i64 a1_0) := (blk_cell BK123.out 0).trans rfl
                  have hcz53_1 : wc.cell? ⟨gb123, 1, none⟩ = some (.int .i64 a1_1) := (blk_cell BK123.out 1).trans rfl
                  have hcz53_2 : wc.cell? ⟨gb123, 2, none⟩ = some (.int .i64 a1_2) := (blk_cell BK123.out 2).trans rfl
                  have hcz53_3 : wc.cell? ⟨gb123, 3, none⟩ = some (.int .i64 a1_3) := (blk_cell BK123.out 3).trans rfl
                  have hcz53_4 : wc.cell? ⟨gb123, 4, none⟩ = some (.int .i64 a1_4) := (blk_cell BK123.out 4).trans rfl
                  have hcz53_5 : wc.cell? ⟨gb123, 5, none⟩ = some (.int .i64 a1_5) := (blk_cell BK123.out 5).trans rfl
                  have hfz53_0 := blk_frozen BK123.out 0
                  have hfz53_1 := blk_frozen BK123.out 1
                  have hfz53_2 := blk_frozen BK123.out 2
                  have hfz53_3 := blk_frozen BK123.out 3
                  have hfz53_4 := blk_frozen BK123.out 4
                  have hfz53_5 := blk_frozen BK123.out 5
                  have hnb54 := NB122_124.out
                  have hnc54 := NB124_122.out
                  have hcz55_0 : wc.cell? ⟨gb122, 0, none⟩ = some (.int .i64 a0_0) := (blk_cell BK122.out 0).trans rfl
                  have hcz55_1 : wc.cell? ⟨gb122, 1, none⟩ = some (.int .i64 a0_1) := (blk_cell BK122.out 1).trans rfl
                  have hcz55_2 : wc.cell? ⟨gb122, 2, none⟩ = some (.slice A0_2 l0_2.length c0_2) := (blk_cell BK122.out 2).trans rfl
                  have hfz55_0 := blk_frozen BK122.out 0
                  have hfz55_1 := blk_frozen BK122.out 1
                  have hfz55_2 := blk_frozen BK122.out 2
                  go_wp2
                  go_meet
                  case rel => exact ⟨_, (decide (a1_1 > (wrap64 (a0_1 - a1_3)))), (by first | rfl | (simp; done) | (simp [*]; done)), H', ⟨by have := HJ4.out; first | omega | exact Nat.le_refl _⟩, ⟨by (with_reducible repeat (first | refine blk_drewN ?_ _ | refine blk_drew ?_ | refine blk_alloc ?_ _)); exact BK122.out⟩, ⟨by (with_reducible repeat (first | refine blk_drewN ?_ _ | refine blk_drew ?_ | refine blk_alloc ?_ _)); exact BK123.out⟩, ⟨by (with_reducible repeat (first | refine blk_drewN ?_ _ | refine blk_drew ?_ | refine blk_alloc ?_ _)); exact BK124.out⟩, ⟨by repeat (first | (with_reducible first | exact HB.out | apply below_alloc | apply pw_below_drewN | apply below_drew1 | refine below_set ?_ GE122.out | refine below_set ?_ GE123.out | refine below_set ?_ GE124.out) | exact HB.out)⟩⟩
          case rest => as_aux_lemma =>
            clear HC32
            try clear c1
            try clear c2
            try clear p2
            try clear c3
            try clear c4
            try clear c4b0
            try clear c4b1
            try clear c5
            try clear p6
            try clear c9
            try clear c10
            try clear c11
            try clear c13
            try clear c13b0
            try clear c14
            try clear c15
            try clear c17
            try clear c17b0
            try clear c18
            try clear c19
            try clear c21
            try clear c21b0
            try clear c22
            try clear c23
            try clear c25
            try clear c26
            try clear c28
            try clear c29
            try clear c30
            try clear c33
            try clear c33b0
            try clear c34
            try clear c35
            try clear c37
            try clear c39
            try clear c39b0
            try clear c40
            try clear c41
            try clear c43
            try clear c45
            try clear c45b0
            try clear c46
            try clear c47
            try clear c49
            try clear c51
            try clear c52
            try clear c54
            try clear hcz11_0
            try clear hcz11_1
            try clear hcz11_2
            try clear hcz16_0
            try clear hcz16_1
            try clear hcz16_2
            try clear hcz16_3
            try clear hcz16_4
            try clear hcz16_5
            try clear hcz20_0
            try clear hcz20_1
            try clear hcz20_2
            try clear hcz20_3
            try clear hcz20_4
            try clear hcz20_5
            try clear hcz24_0
            try clear hcz24_1
            try clear hcz24_2
            try clear hcz24_3
            try clear hcz24_4
            try clear hcz24_5
            try clear hcz27_0
            try clear hcz27_1
            try clear hcz27_2
            try clear hcz27_3
            try clear hcz27_4
            try clear hcz27_5
            try clear hcz31_0
            try clear hcz31_1
            try clear hcz31_2
            try clear hcz36_0
            try clear hcz36_1
            try clear hcz36_2
            try clear hcz36_3
            try clear hcz36_4
            try clear hcz36_5
            try clear hcz38_0
            try clear hcz38_1
            try clear hcz38_2
            try clear hcz42_0
            try clear hcz42_1
            try clear hcz42_2
            try clear hcz42_3
            try clear hcz42_4
            try clear hcz42_5
            try clear hcz44_0
            try clear hcz44_1
            try clear hcz44_2
            try clear hcz48_0
            try clear hcz48_1
            try clear hcz48_2
            try clear hcz48_3
            try clear hcz48_4
            try clear hcz48_5
            try clear hcz50_0
            try clear hcz50_1
            try clear hcz50_2
            try clear hcz53_0
            try clear hcz53_1
            try clear hcz53_2
            try clear hcz53_3
            try clear hcz53_4
            try clear hcz53_5
            try clear hcz55_0
            try clear hcz55_1
            try clear hcz55_2
            try clear hfz11_0
            try clear hfz11_1
            try clear hfz11_2
            try clear hfz16_0
            try clear hfz16_1
            try clear hfz16_2
            try clear hfz16_3
            try clear hfz16_4
            try clear hfz16_5
            try clear hfz20_0
            try clear hfz20_1
            try clear hfz20_2
            try clear hfz20_3
            try clear hfz20_4
            try clear hfz20_5
            try clear hfz24_0
            try clear hfz24_1
            try clear hfz24_2
            try clear hfz24_3
            try clear hfz24_4
            try clear hfz24_5
            try clear hfz27_0
            try clear hfz27_1
            try clear hfz27_2
            try clear hfz27_3
            try clear hfz27_4
            try clear hfz27_5
            try clear hfz31_0
            try clear hfz31_1
            try clear hfz31_2
            try clear hfz36_0
            try clear hfz36_1
            try clear hfz36_2
            try clear hfz36_3
            try clear hfz36_4
            try clear hfz36_5
            try clear hfz38_0
            try clear hfz38_1
            try clear hfz38_2
            try clear hfz42_0
            try clear hfz42_1
            try clear hfz42_2
            try clear hfz42_3
            try clear hfz42_4
            try clear hfz42_5
            try clear hfz44_0
            try clear hfz44_1
            try clear hfz44_2
            try clear hfz48_0
            try clear hfz48_1
            try clear hfz48_2
            try clear hfz48_3
            try clear hfz48_4
            try clear hfz48_5
            try clear hfz50_0
            try clear hfz50_1
            try clear hfz50_2
            try clear hfz53_0
            try clear hfz53_1
            try clear hfz53_2
            try clear hfz53_3
            try clear hfz53_4
            try clear hfz53_5
            try clear hfz55_0
            try clear hfz55_1
            try clear hfz55_2
            try clear p2
            obtain ⟨kq, x22_31, rfl, HA, HJ31, BK122, BK123, BK124, HB⟩ := hcut
            cases kq with
            | zero => exact absurd HA.out (by simp [asset_Render.j1])
            | succ kj31 =>
              have H := HA.out
              clear HA
              simp only [asset_Render.j1] at H
              by_cases c56 : x22_31 = true
              · subst c56
                have H1 : (some (0, 0, ([] : List Int), 2)) = some (r1, r2, r3, r4) := by rw [if_pos rfl] at H; exact H
                clear H
                have H := H1
                clear H1
                simp only [Option.some.injEq, Prod.mk.injEq] at H
                obtain ⟨rfl, rfl, rfl, rfl⟩ := H
                have hnb57 := NB124_122.out
                have hnc57 := NB122_124.out
                have hnb58 := NB124_123.out
                have hnc58 := NB123_124.out
                have hcz59_0 : wc.cell? ⟨gb124, 0, none⟩ = some (.int .i64 0) := (blk_cell BK124.out 0).trans rfl
                have hcz59_1 : wc.cell? ⟨gb124, 1, none⟩ = some (.int .i64 0) := (blk_cell BK124.out 1).trans rfl
                have hcz59_2 : wc.cell? ⟨gb124, 2, none⟩ = some (.slice none 0 0) := (blk_cell BK124.out 2).trans rfl
                have hfz59_0 := blk_frozen BK124.out 0
                have hfz59_1 := blk_frozen BK124.out 1
                have hfz59_2 := blk_frozen BK124.out 2
                go_wp2
                refine bodyPost_ret (results_ct rfl _ _ gb124 29 #[.int .i64 0, .int .i64 0, .slice none 0 0] (0, 0) _ rfl (by (with_reducible repeat (first | refine blk_drewN ?_ _ | refine blk_drew ?_ | refine blk_alloc ?_ _)); refine blk_put (cs := #[.int .i64 0, .int .i64 0, .slice none 0 0]) ?_ 2 _ rfl; (with_reducible repeat (first | refine blk_drewN ?_ _ | refine blk_drew ?_ | refine blk_alloc ?_ _)); refine blk_put (cs := #[.int .i64 0, .int .i64 0, .slice none 0 0]) ?_ 1 _ rfl; (with_reducible repeat (first | refine blk_drewN ?_ _ | refine blk_drew ?_ | refine blk_alloc ?_ _)); refine blk_put (cs := #[.int .i64 0, .int .i64 0, .slice none 0 0]) ?_ 0 _ rfl; (with_reducible repeat (first | refine blk_drewN ?_ _ | refine blk_drew ?_ | refine blk_alloc ?_ _)); exact BK124.out) Try.underlying29 rfl (by kernel_rfl)) rfl ?_
                exact ⟨_, by first | rfl | (simp [errW_none, errW_some] <;> rfl) | (simp [*, errW_none, errW_some] <;> rfl), by first | exact Kd.R_nil _ _ _ _ _ | exact Kd.N_nil _ _ _ _ _ | exact Kd.V_nil _ _ _ _ _ | exact Kd.Q_nil _ _ _ _ _ | exact Kd.S_nil _ _ _ _ _, by repeat (first | (with_reducible first | exact HB.out | apply below_alloc | apply pw_below_drewN | apply below_drew1 | refine below_set ?_ GE122.out | refine below_set ?_ GE123.out | refine below_set ?_ GE124.out) | exact HB.out)⟩
              · replace c56 := Bool.eq_false_iff.mpr c56
                subst c56
                have H1 : (if a1_4 < 1 then (some (0, 0, ([] : List Int), 2)) else (if a1_4 > a1_2 then (some (0, 0, ([] : List Int), 2)) else (if a1_5 < 1 then (some (0, 0, ([] : List Int), 2)) else (if a1_5 > a1_3 then (some (0, 0, ([] : List Int), 2)) else (asset_Render.l0 kj31 (wrap64 (a1_2 * a1_3)) a1_5 0 a0_0 a0_1 l0_2 a1_0 a1_1 a1_2 a1_3 a1_4 a1_5 a1_4 a1_5 ([] : List Int)))))) = some (r1, r2, r3, r4) := by rw [if_neg (show ¬ (false = true) by decide)] at H; exact H
                clear H
                have H := H1
                clear H1
                by_cases c60 : a1_4 < 1
                · rw [if_pos c60] at H
                  have c60b0 : decide (a1_4 < 1) = true := decide_eq_true c60
                  clear c60
                  simp only [Option.some.injEq, Prod.mk.injEq] at H
                  obtain ⟨rfl, rfl, rfl, rfl⟩ := H
                  have hnb61 := NB123_122.out
                  have hnc61 := NB122_123.out
                  have hnb62 := NB123_124.out
                  have hnc62 := NB124_123.out
                  have hcz63_0 : wc.cell? ⟨gb123, 0, none⟩ = some (.int .i64 a1_0) := (blk_cell BK123.out 0).trans rfl
                  have hcz63_1 : wc.cell? ⟨gb123, 1, none⟩ = some (.int .i64 a1_1) := (blk_cell BK123.out 1).trans rfl
                  have hcz63_2 : wc.cell? ⟨gb123, 2, none⟩ = some (.int .i64 a1_2) := (blk_cell BK123.out 2).trans rfl
                  have hcz63_3 : wc.cell? ⟨gb123, 3, none⟩ = some (.int .i64 a1_3) := (blk_cell BK123.out 3).trans rfl
                  have hcz63_4 : wc.cell? ⟨gb123, 4, none⟩ = some (.int .i64 a1_4) := (blk_cell BK123.out 4).trans rfl
                  have hcz63_5 : wc.cell? ⟨gb123, 5, none⟩ = some (.int .i64 a1_5) := (blk_cell BK123.out 5).trans rfl
                  have hfz63_0 := blk_frozen BK123.out 0
                  have hfz63_1 := blk_frozen BK123.out 1
                  have hfz63_2 := blk_frozen BK123.out 2
                  have hfz63_3 := blk_frozen BK123.out 3
                  have hfz63_4 := blk_frozen BK123.out 4
                  have hfz63_5 := blk_frozen BK123.out 5
                  have hnb64 := NB124_122.out
                  have hnc64 := NB122_124.out
                  have hcz65_0 : wc.cell? ⟨gb124, 0, none⟩ = some (.int .i64 0) := (blk_cell BK124.out 0).trans rfl
                  have hcz65_1 : wc.cell? ⟨gb124, 1, none⟩ = some (.int .i64 0) := (blk_cell BK124.out 1).trans rfl
                  have hcz65_2 : wc.cell? ⟨gb124, 2, none⟩ = some (.slice none 0 0) := (blk_cell BK124.out 2).trans rfl
                  have hfz65_0 := blk_frozen BK124.out 0
                  have hfz65_1 := blk_frozen BK124.out 1
                  have hfz65_2 := blk_frozen BK124.out 2
                  go_wp2
                  refine bodyPost_ret (results_ct rfl _ _ gb124 29 #[.int .i64 0, .int .i64 0, .slice none 0 0] (0, 0) _ rfl (by (with_reducible repeat (first | refine blk_drewN ?_ _ | refine blk_drew ?_ | refine blk_alloc ?_ _)); refine blk_put (cs := #[.int .i64 0, .int .i64 0, .slice none 0 0]) ?_ 2 _ rfl; (with_reducible repeat (first | refine blk_drewN ?_ _ | refine blk_drew ?_ | refine blk_alloc ?_ _)); refine blk_put (cs := #[.int .i64 0, .int .i64 0, .slice none 0 0]) ?_ 1 _ rfl; (with_reducible repeat (first | refine blk_drewN ?_ _ | refine blk_drew ?_ | refine blk_alloc ?_ _)); refine blk_put (cs := #[.int .i64 0, .int .i64 0, .slice none 0 0]) ?_ 0 _ rfl; (with_reducible repeat (first | refine blk_drewN ?_ _ | refine blk_drew ?_ | refine blk_alloc ?_ _)); exact BK124.out) Try.underlying29 rfl (by kernel_rfl)) rfl ?_
                  exact ⟨_, by first | rfl | (simp [errW_none, errW_some] <;> rfl) | (simp [*, errW_none, errW_some] <;> rfl), by first | exact Kd.R_nil _ _ _ _ _ | exact Kd.N_nil _ _ _ _ _ | exact Kd.V_nil _ _ _ _ _ | exact Kd.Q_nil _ _ _ _ _ | exact Kd.S_nil _ _ _ _ _, by repeat (first | (with_reducible first | exact HB.out | apply below_alloc | apply pw_below_drewN | apply below_drew1 | refine below_set ?_ GE122.out | refine below_set ?_ GE123.out | refine below_set ?_ GE124.out) | exact HB.out)⟩
                · rw [if_neg c60] at H
                  have c60b0 : decide (a1_4 < 1) = false := decide_eq_false c60
                  clear c60
                  by_cases c66 : a1_4 > a1_2
                  · rw [if_pos c66] at H
                    have c66b0 : decide (a1_2 < a1_4) = true := decide_eq_true c66
                    clear c66
                    simp only [Option.some.injEq, Prod.mk.injEq] at H
                    obtain ⟨rfl, rfl, rfl, rfl⟩ := H
                    have hnb67 := NB123_122.out
                    have hnc67 := NB122_123.out
                    have hnb68 := NB123_124.out
                    have hnc68 := NB124_123.out
                    have hcz69_0 : wc.cell? ⟨gb123, 0, none⟩ = some (.int .i64 a1_0) := (blk_cell BK123.out 0).trans rfl
                    have hcz69_1 : wc.cell? ⟨gb123, 1, none⟩ = some (.int .i64 a1_1) := (blk_cell BK123.out 1).trans rfl
                    have hcz69_2 : wc.cell? ⟨gb123, 2, none⟩ = some (.int .i64 a1_2) := (blk_cell BK123.out 2).trans rfl
                    have hcz69_3 : wc.cell? ⟨gb123, 3, none⟩ = some (.int .i64 a1_3) := (blk_cell BK123.out 3).trans rfl
                    have hcz69_4 : wc.cell? ⟨gb123, 4, none⟩ = some (.int .i64 a1_4) := (blk_cell BK123.out 4).trans rfl
                    have hcz69_5 : wc.cell? ⟨gb123, 5, none⟩ = some (.int .i64 a1_5) := (blk_cell BK123.out 5).trans rfl
                    have hfz69_0 := blk_frozen BK123.out 0
                    have hfz69_1 := blk_frozen BK123.out 1
                    have hfz69_2 := blk_frozen BK123.out 2
                    have hfz69_3 := blk_frozen BK123.out 3
                    have hfz69_4 := blk_frozen BK123.out 4
                    have hfz69_5 := blk_frozen BK123.out 5
                    have hnb70 := NB124_122.out
                    have hnc70 := NB122_124.out
                    have hcz71_0 : wc.cell? ⟨gb124, 0, none⟩ = some (.int .i64 0) := (blk_cell BK124.out 0).trans rfl
                    have hcz71_1 : wc.cell? ⟨gb124, 1, none⟩ = some (.int .i64 0) := (blk_cell BK124.out 1).trans rfl
                    have hcz71_2 : wc.cell? ⟨gb124, 2, none⟩ = some (.slice none 0 0) := (blk_cell BK124.out 2).trans rfl
                    have hfz71_0 := blk_frozen BK124.out 0
                    have hfz71_1 := blk_frozen BK124.out 1
                    have hfz71_2 := blk_frozen BK124.out 2
                    go_wp2
                    refine bodyPost_ret (results_ct rfl _ _ gb124 29 #[.int .i64 0, .int .i64 0, .slice none 0 0] (0, 0) _ rfl (by (with_reducible repeat (first | refine blk_drewN ?_ _ | refine blk_drew ?_ | refine blk_alloc ?_ _)); refine blk_put (cs := #[.int .i64 0, .int .i64 0, .slice none 0 0]) ?_ 2 _ rfl; (with_reducible repeat (first | refine blk_drewN ?_ _ | refine blk_drew ?_ | refine blk_alloc ?_ _)); refine blk_put (cs := #[.int .i64 0, .int .i64 0, .slice none 0 0]) ?_ 1 _ rfl; (with_reducible repeat (first | refine blk_drewN ?_ _ | refine blk_drew ?_ | refine blk_alloc ?_ _)); refine blk_put (cs := #[.int .i64 0, .int .i64 0, .slice none 0 0]) ?_ 0 _ rfl; (with_reducible repeat (first | refine blk_drewN ?_ _ | refine blk_drew ?_ | refine blk_alloc ?_ _)); exact BK124.out) Try.underlying29 rfl (by kernel_rfl)) rfl ?_
                    exact ⟨_, by first | rfl | (simp [errW_none, errW_some] <;> rfl) | (simp [*, errW_none, errW_some] <;> rfl), by first | exact Kd.R_nil _ _ _ _ _ | exact Kd.N_nil _ _ _ _ _ | exact Kd.V_nil _ _ _ _ _ | exact Kd.Q_nil _ _ _ _ _ | exact Kd.S_nil _ _ _ _ _, by repeat (first | (with_reducible first | exact HB.out | apply below_alloc | apply pw_below_drewN | apply below_drew1 | refine below_set ?_ GE122.out | refine below_set ?_ GE123.out | refine below_set ?_ GE124.out) | exact HB.out)⟩
                  · rw [if_neg c66] at H
                    have c66b0 : decide (a1_2 < a1_4) = false := decide_eq_false c66
                    clear c66
                    by_cases c72 : a1_5 < 1
                    · rw [if_pos c72] at H
                      have c72b0 : decide (a1_5 < 1) = true := decide_eq_true c72
                      clear c72
                      simp only [Option.some.injEq, Prod.mk.injEq] at H
                      obtain ⟨rfl, rfl, rfl, rfl⟩ := H
                      have hnb73 := NB123_122.out
                      have hnc73 := NB122_123.out
                      have hnb74 := NB123_124.out
                      have hnc74 := NB124_123.out
                      have hcz75_0 : wc.cell? ⟨gb123, 0, none⟩ = some (.int .i64 a1_0) := (blk_cell BK123.out 0).trans rfl
                      have hcz75_1 : wc.cell? ⟨gb123, 1, none⟩ = some (.int .i64 a1_1) := (blk_cell BK123.out 1).trans rfl
                      have hcz75_2 : wc.cell? ⟨gb123, 2, none⟩ = some (.int .i64 a1_2) := (blk_cell BK123.out 2).trans rfl
                      have hcz75_3 : wc.cell? ⟨gb123, 3, none⟩ = some (.int .i64 a1_3) := (blk_cell BK123.out 3).trans rfl
                      have hcz75_4 : wc.cell? ⟨gb123, 4, none⟩ = some (.int .i64 a1_4) := (blk_cell BK123.out 4).trans rfl
                      have hcz75_5 : wc.cell? ⟨gb123, 5, none⟩ = some (.int .i64 a1_5) := (blk_cell BK123.out 5).trans rfl
                      have hfz75_0 := blk_frozen BK123.out 0
                      have hfz75_1 := blk_frozen BK123.out 1
                      have hfz75_2 := blk_frozen BK123.out 2
                      have hfz75_3 := blk_frozen BK123.out 3
                      have hfz75_4 := blk_frozen BK123.out 4
                      have hfz75_5 := blk_frozen BK123.out 5
                      have hnb76 := NB124_122.out
                      have hnc76 := NB122_124.out
                      have hcz77_0 : wc.cell? ⟨gb124, 0, none⟩ = some (.int .i64 0) := (blk_cell BK124.out 0).trans rfl
                      have hcz77_1 : wc.cell? ⟨gb124, 1, none⟩ = some (.int .i64 0) := (blk_cell BK124.out 1).trans rfl
                      have hcz77_2 : wc.cell? ⟨gb124, 2, none⟩ = some (.slice none 0 0) := (blk_cell BK124.out 2).trans rfl
                      have hfz77_0 := blk_frozen BK124.out 0
                      have hfz77_1 := blk_frozen BK124.out 1
                      have hfz77_2 := blk_frozen BK124.out 2
                      go_wp2
                      refine bodyPost_ret (results_ct rfl _ _ gb124 29 #[.int .i64 0, .int .i64 0, .slice none 0 0] (0, 0) _ rfl (by (with_reducible repeat (first | refine blk_drewN ?_ _ | refine blk_drew ?_ | refine blk_alloc ?_ _)); refine blk_put (cs := #[.int .i64 0, .int .i64 0, .slice none 0 0]) ?_ 2 _ rfl; (with_reducible repeat (first | refine blk_drewN ?_ _ | refine blk_drew ?_ | refine blk_alloc ?_ _)); refine blk_put (cs := #[.int .i64 0, .int .i64 0, .slice none 0 0]) ?_ 1 _ rfl; (with_reducible repeat (first | refine blk_drewN ?_ _ | refine blk_drew ?_ | refine blk_alloc ?_ _)); refine blk_put (cs := #[.int .i64 0, .int .i64 0, .slice none 0 0]) ?_ 0 _ rfl; (with_reducible repeat (first | refine blk_drewN ?_ _ | refine blk_drew ?_ | refine blk_alloc ?_ _)); exact BK124.out) Try.underlying29 rfl (by kernel_rfl)) rfl ?_
                      exact ⟨_, by first | rfl | (simp [errW_none, errW_some] <;> rfl) | (simp [*, errW_none, errW_some] <;> rfl), by first | exact Kd.R_nil _ _ _ _ _ | exact Kd.N_nil _ _ _ _ _ | exact Kd.V_nil _ _ _ _ _ | exact Kd.Q_nil _ _ _ _ _ | exact Kd.S_nil _ _ _ _ _, by repeat (first | (with_reducible first | exact HB.out | apply below_alloc | apply pw_below_drewN | apply below_drew1 | refine below_set ?_ GE122.out | refine below_set ?_ GE123.out | refine below_set ?_ GE124.out) | exact HB.out)⟩
                    · rw [if_neg c72] at H
                      have c72b0 : decide (a1_5 < 1) = false := decide_eq_false c72
                      clear c72
                      by_cases c78 : a1_5 > a1_3
                      · rw [if_pos c78] at H
                        have c78b0 : decide (a1_3 < a1_5) = true := decide_eq_true c78
                        clear c78
                        simp only [Option.some.injEq, Prod.mk.injEq] at H
                        obtain ⟨rfl, rfl, rfl, rfl⟩ := H
                        have hnb79 := NB123_122.out
                        have hnc79 := NB122_123.out
                        have hnb80 := NB123_124.out
                        have hnc80 := NB124_123.out
                        have hcz81_0 : wc.cell? ⟨gb123, 0, none⟩ = some (.int .i64 a1_0) := (blk_cell BK123.out 0).trans rfl
                        have hcz81_1 : wc.cell? ⟨gb123, 1, none⟩ = some (.int .i64 a1_1) := (blk_cell BK123.out 1).trans rfl
                        have hcz81_2 : wc.cell? ⟨gb123, 2, none⟩ = some (.int .i64 a1_2) := (blk_cell BK123.out 2).trans rfl
                        have hcz81_3 : wc.cell? ⟨gb123, 3, none⟩ = some (.int .i64 a1_3) := (blk_cell BK123.out 3).trans rfl
                        have hcz81_4 : wc.cell? ⟨gb123, 4, none⟩ = some (.int .i64 a1_4) := (blk_cell BK123.out 4).trans rfl
                        have hcz81_5 : wc.cell? ⟨gb123, 5, none⟩ = some (.int .i64 a1_5) := (blk_cell BK123.out 5).trans rfl
                        have hfz81_0 := blk_frozen BK123.out 0
                        have hfz81_1 := blk_frozen BK123.out 1
                        have hfz81_2 := blk_frozen BK123.out 2
                        have hfz81_3 := blk_frozen BK123.out 3
                        have hfz81_4 := blk_frozen BK123.out 4
                        have hfz81_5 := blk_frozen BK123.out 5
                        have hnb82 := NB124_122.out
                        have hnc82 := NB122_124.out
                        have hcz83_0 : wc.cell? ⟨gb124, 0, none⟩ = some (.int .i64 0) := (blk_cell BK124.out 0).trans rfl
                        have hcz83_1 : wc.cell? ⟨gb124, 1, none⟩ = some (.int .i64 0) := (blk_cell BK124.out 1).trans rfl
                        have hcz83_2 : wc.cell? ⟨gb124, 2, none⟩ = some (.slice none 0 0) := (blk_cell BK124.out 2).trans rfl
                        have hfz83_0 := blk_frozen BK124.out 0
                        have hfz83_1 := blk_frozen BK124.out 1
                        have hfz83_2 := blk_frozen BK124.out 2
                        go_wp2
                        refine bodyPost_ret (results_ct rfl _ _ gb124 29 #[.int .i64 0, .int .i64 0, .slice none 0 0] (0, 0) _ rfl (by (with_reducible repeat (first | refine blk_drewN ?_ _ | refine blk_drew ?_ | refine blk_alloc ?_ _)); refine blk_put (cs := #[.int .i64 0, .int .i64 0, .slice none 0 0]) ?_ 2 _ rfl; (with_reducible repeat (first | refine blk_drewN ?_ _ | refine blk_drew ?_ | refine blk_alloc ?_ _)); refine blk_put (cs := #[.int .i64 0, .int .i64 0, .slice none 0 0]) ?_ 1 _ rfl; (with_reducible repeat (first | refine blk_drewN ?_ _ | refine blk_drew ?_ | refine blk_alloc ?_ _)); refine blk_put (cs := #[.int .i64 0, .int .i64 0, .slice none 0 0]) ?_ 0 _ rfl; (with_reducible repeat (first | refine blk_drewN ?_ _ | refine blk_drew ?_ | refine blk_alloc ?_ _)); exact BK124.out) Try.underlying29 rfl (by kernel_rfl)) rfl ?_
                        exact ⟨_, by first | rfl | (simp [errW_none, errW_some] <;> rfl) | (simp [*, errW_none, errW_some] <;> rfl), by first | exact Kd.R_nil _ _ _ _ _ | exact Kd.N_nil _ _ _ _ _ | exact Kd.V_nil _ _ _ _ _ | exact Kd.Q_nil _ _ _ _ _ | exact Kd.S_nil _ _ _ _ _, by repeat (first | (with_reducible first | exact HB.out | apply below_alloc | apply pw_below_drewN | apply below_drew1 | refine below_set ?_ GE122.out | refine below_set ?_ GE123.out | refine below_set ?_ GE124.out) | exact HB.out)⟩
                      · rw [if_neg c78] at H
                        have c78b0 : decide (a1_3 < a1_5) = false := decide_eq_false c78
                        clear c78
                        have H' := Aside0.mk H
                        clear H
                        have hnb84 := NB123_122.out
                        have hnc84 := NB122_123.out
                        have hnb85 := NB123_124.out
                        have hnc85 := NB124_123.out
                        have hcz86_0 : wc.cell? ⟨gb123, 0, none⟩ = some (.int .i64 a1_0) := (blk_cell BK123.out 0).trans rfl
                        have hcz86_1 : wc.cell? ⟨gb123, 1, none⟩ = some (.int .i64 a1_1) := (blk_cell BK123.out 1).trans rfl
                        have hcz86_2 : wc.cell? ⟨gb123, 2, none⟩ = some (.int .i64 a1_2) := (blk_cell BK123.out 2).trans rfl
                        have hcz86_3 : wc.cell? ⟨gb123, 3, none⟩ = some (.int .i64 a1_3) := (blk_cell BK123.out 3).trans rfl
                        have hcz86_4 : wc.cell? ⟨gb123, 4, none⟩ = some (.int .i64 a1_4) := (blk_cell BK123.out 4).trans rfl
                        have hcz86_5 : wc.cell? ⟨gb123, 5, none⟩ = some (.int .i64 a1_5) := (blk_cell BK123.out 5).trans rfl
                        have hfz86_0 := blk_frozen BK123.out 0
                        have hfz86_1 := blk_frozen BK123.out 1
                        have hfz86_2 := blk_frozen BK123.out 2
                        have hfz86_3 := blk_frozen BK123.out 3
                        have hfz86_4 := blk_frozen BK123.out 4
                        have hfz86_5 := blk_frozen BK123.out 5
                        go_wp2_with (first | ((with_reducible refine gate_dst (N := 7) rfl ?_); refine box_event ?hg (N := 7) ?hd (cs := #[.int .i64 0, .int .i64 0, .slice none 0 0]) (t := 29) ?hr ?_; (case hd => rfl); (case hg => rfl); (case hr => first | (go_simp; done) | (go_simp; rfl)); intro gb126 hg w87 hbox hb; have n0_ := Aside0.mk (blk_below (g := gb122) (o := .cells #[.int .i64 a0_0, .int .i64 a0_1, .slice A0_2 l0_2.length c0_2] 29 (0, 0)) (by (with_reducible repeat (first | refine blk_drewN ?_ _ | refine blk_drew ?_ | refine blk_alloc ?_ _)); exact BK122.out) hb); have n1_ := Aside0.mk (blk_below (g := gb123) (o := .cells #[.int .i64 a1_0, .int .i64 a1_1, .int .i64 a1_2, .int .i64 a1_3, .int .i64 a1_4, .int .i64 a1_5] 33 (0, 0)) (by (with_reducible repeat (first | refine blk_drewN ?_ _ | refine blk_drew ?_ | refine blk_alloc ?_ _)); exact BK123.out) hb); have n2_ := Aside0.mk (blk_below (g := gb124) (o := .cells #[.int .i64 0, .int .i64 0, .slice none 0 0] 29 (0, 0)) (by (with_reducible repeat (first | refine blk_drewN ?_ _ | refine blk_drew ?_ | refine blk_alloc ?_ _)); exact BK124.out) hb); have n3_ := Aside0.mk (below_step (by repeat (first | (with_reducible first | exact HB.out | apply below_alloc | apply pw_below_drewN | apply below_drew1 | refine below_set ?_ GE122.out | refine below_set ?_ GE123.out | refine below_set ?_ GE124.out) | exact HB.out)) hb); have n4_ := Aside0.mk (hbox); have n5_ := Aside0.mk ((by rw [hg]; exact (below_size (by repeat (first | (with_reducible first | exact HB.out | apply below_alloc | apply pw_below_drewN | apply below_drew1 | refine below_set ?_ GE122.out | refine below_set ?_ GE123.out | refine below_set ?_ GE124.out) | exact HB.out))) : w.heap.size ≤ gb126)); have n6_ := Aside0.mk ((by rw [hg]; exact (below_size (by repeat (first | (with_reducible first | exact HB.out | apply below_alloc | apply pw_below_drewN | apply below_drew1 | refine below_set ?_ GE122.out | refine below_set ?_ GE123.out | refine below_set ?_ GE124.out) | exact HB.out))) : w.heap.size ≤ gb126)); have n7_ := Aside0.mk ((by rw [hg]; exact Nat.ne_of_lt (blk_lt (g := gb122) (o := .cells #[.int .i64 a0_0, .int .i64 a0_1, .slice A0_2 l0_2.length c0_2] 29 (0, 0)) (by (with_reducible repeat (first | refine blk_drewN ?_ _ | refine blk_drew ?_ | refine blk_alloc ?_ _)); exact BK122.out)) : gb122 ≠ gb126)); have n8_ := Aside0.mk ((by rw [hg]; exact Nat.ne_of_gt (blk_lt (g := gb122) (o := .cells #[.int .i64 a0_0, .int .i64 a0_1, .slice A0_2 l0_2.length c0_2] 29 (0, 0)) (by (with_reducible repeat (first | refine blk_drewN ?_ _ | refine blk_drew ?_ | refine blk_alloc ?_ _)); exact BK122.out)) : gb126 ≠ gb122)); have n9_ := Aside0.mk ((by rw [hg]; exact Nat.ne_of_lt (blk_lt (g := gb123) (o := .cells #[.int .i64 a1_0, .int .i64 a1_1, .int .i64 a1_2, .int .i64 a1_3, .int .i64 a1_4, .int .i64 a1_5] 33 (0, 0)) (by (with_reducible repeat (first | refine blk_drewN ?_ _ | refine blk_drew ?_ | refine blk_alloc ?_ _)); exact BK123.out)) : gb123 ≠ gb126)); have n10_ := Aside0.mk ((by rw [hg]; exact Nat.ne_of_gt (blk_lt (g := gb123) (o := .cells #[.int .i64 a1_0, .int .i64 a1_1, .int .i64 a1_2, .int .i64 a1_3, .int .i64 a1_4, .int .i64 a1_5] 33 (0, 0)) (by (with_reducible repeat (first | refine blk_drewN ?_ _ | refine blk_drew ?_ | refine blk_alloc ?_ _)); exact BK123.out)) : gb126 ≠ gb123)); have n11_ := Aside0.mk ((by rw [hg]; exact Nat.ne_of_lt (blk_lt (g := gb124) (o := .cells #[.int .i64 0, .int .i64 0, .slice none 0 0] 29 (0, 0)) (by (with_reducible repeat (first | refine blk_drewN ?_ _ | refine blk_drew ?_ | refine blk_alloc ?_ _)); exact BK124.out)) : gb124 ≠ gb126)); have n12_ := Aside0.mk ((by rw [hg]; exact Nat.ne_of_gt (blk_lt (g := gb124) (o := .cells #[.int .i64 0, .int .i64 0, .slice none 0 0] 29 (0, 0)) (by (with_reducible repeat (first | refine blk_drewN ?_ _ | refine blk_drew ?_ | refine blk_alloc ?_ _)); exact BK124.out)) : gb126 ≠ gb124)); clear BK122; clear BK123; clear BK124; clear HB; have BK122 := n0_; have BK123 := n1_; have BK124 := n2_; have HB := n3_; have BK126 := n4_; have GW126 := n5_; have GE126 := n6_; have NB122_126 := n7_; have NB126_122 := n8_; have NB123_126 := n9_; have NB126_123 := n10_; have NB124_126 := n11_; have NB126_124 := n12_; clear n0_ n1_ n2_ n3_ n4_ n5_ n6_ n7_ n8_ n9_ n10_ n11_ n12_; clear hb hbox hg; have hnb88 := NB126_122.out; have hnc88 := NB122_126.out; have hnb89 := NB126_123.out; have hnc89 := NB123_126.out; have hnb90 := NB126_124.out; have hnc90 := NB124_126.out; have hcz91_0 : w87.cell? ⟨gb126, 0, none⟩ = some (.int .i64 0) := (blk_cell BK126.out 0).trans rfl; have hcz91_1 : w87.cell? ⟨gb126, 1, none⟩ = some (.int .i64 0) := (blk_cell BK126.out 1).trans rfl; have hcz91_2 : w87.cell? ⟨gb126, 2, none⟩ = some (.slice none 0 0) := (blk_cell BK126.out 2).trans rfl; have hfz91_0 := blk_frozen BK126.out 0; have hfz91_1 := blk_frozen BK126.out 1; have hfz91_2 := blk_frozen BK126.out 2; have hcz92_0 : w87.cell? ⟨gb123, 0, none⟩ = some (.int .i64 a1_0) := (blk_cell BK123.out 0).trans rfl; have hcz92_1 : w87.cell? ⟨gb123, 1, none⟩ = some (.int .i64 a1_1) := (blk_cell BK123.out 1).trans rfl; have hcz92_2 : w87.cell? ⟨gb123, 2, none⟩ = some (.int .i64 a1_2) := (blk_cell BK123.out 2).trans rfl; have hcz92_3 : w87.cell? ⟨gb123, 3, none⟩ = some (.int .i64 a1_3) := (blk_cell BK123.out 3).trans rfl; have hcz92_4 : w87.cell? ⟨gb123, 4, none⟩ = some (.int .i64 a1_4) := (blk_cell BK123.out 4).trans rfl; have hcz92_5 : w87.cell? ⟨gb123, 5, none⟩ = some (.int .i64 a1_5) := (blk_cell BK123.out 5).trans rfl; have hfz92_0 := blk_frozen BK123.out 0; have hfz92_1 := blk_frozen BK123.out 1; have hfz92_2 := blk_frozen BK123.out 2; have hfz92_3 := blk_frozen BK123.out 3; have hfz92_4 := blk_frozen BK123.out 4; have hfz92_5 := blk_frozen BK123.out 5))
                        go_loopg [108] kj31 (fun kq v108 w' => ∃ (x108_3 : Int) (x127002_3 : List Int) (u127002 : Value), v108 = .int .i64 x108_3 ∧ Aside0 (asset_Render.l0 kq (wrap64 (a1_2 * a1_3)) a1_5 x108_3 a0_0 a0_1 l0_2 a1_0 a1_1 a1_2 a1_3 a1_4 a1_5 a1_4 a1_5 x127002_3 = some (r1, r2, r3, r4)) ∧ Aside0 (kq ≤ kj31) ∧ Aside0 (Kd.R (Kd.int .i64) 3 w' w.heap.size (fun _ => True) u127002 x127002_3) ∧ Aside0 (w'.heap[gb122]? = some (.cells #[.int .i64 a0_0, .int .i64 a0_1, (.slice A0_2 l0_2.length c0_2)] 29 (0, 0))) ∧ Aside0 (w'.heap[gb123]? = some (.cells #[.int .i64 a1_0, .int .i64 a1_1, .int .i64 a1_2, .int .i64 a1_3, .int .i64 a1_4, .int .i64 a1_5] 33 (0, 0))) ∧ Aside0 (w'.heap[gb124]? = some (.cells #[.int .i64 0, .int .i64 0, (.slice none 0 0)] 29 (0, 0))) ∧ Aside0 (w'.heap[gb126]? = some (.cells #[.int .i64 a1_4, .int .i64 a1_5, u127002] 29 (0, 0))) ∧ Aside0 (Below w.heap.size w w'))
                        case atStart => exact ⟨(0), (([] : List Int)), (.slice none 0 0), (by first | rfl | (simp; done) | (simp [*]; done)), H', ⟨Nat.le_refl _⟩, ⟨by first | exact Kd.R_nil _ _ _ _ _ | exact Kd.N_nil _ _ _ _ _ | exact Kd.V_nil _ _ _ _ _ | exact Kd.Q_nil _ _ _ _ _ | exact Kd.S_nil _ _ _ _ _⟩, ⟨by (with_reducible repeat (first | refine blk_drewN ?_ _ | refine blk_drew ?_ | refine blk_alloc ?_ _)); refine blk_far ?_ NB122_126.out _; (with_reducible repeat (first | refine blk_drewN ?_ _ | refine blk_drew ?_ | refine blk_alloc ?_ _)); refine blk_far ?_ NB122_126.out _; (with_reducible repeat (first | refine blk_drewN ?_ _ | refine blk_drew ?_ | refine blk_alloc ?_ _)); refine blk_far ?_ NB122_126.out _; (with_reducible repeat (first | refine blk_drewN ?_ _ | refine blk_drew ?_ | refine blk_alloc ?_ _)); exact BK122.out⟩, ⟨by (with_reducible repeat (first | refine blk_drewN ?_ _ | refine blk_drew ?_ | refine blk_alloc ?_ _)); refine blk_far ?_ NB123_126.out _; (with_reducible repeat (first | refine blk_drewN ?_ _ | refine blk_drew ?_ | refine blk_alloc ?_ _)); refine blk_far ?_ NB123_126.out _; (with_reducible repeat (first | refine blk_drewN ?_ _ | refine blk_drew ?_ | refine blk_alloc ?_ _)); refine blk_far ?_ NB123_126.out _; (with_reducible repeat (first | refine blk_drewN ?_ _ | refine blk_drew ?_ | refine blk_alloc ?_ _)); exact BK123.out⟩, ⟨by (with_reducible repeat (first | refine blk_drewN ?_ _ | refine blk_drew ?_ | refine blk_alloc ?_ _)); refine blk_far ?_ NB124_126.out _; (with_reducible repeat (first | refine blk_drewN ?_ _ | refine blk_drew ?_ | refine blk_alloc ?_ _)); refine blk_far ?_ NB124_126.out _; (with_reducible repeat (first | refine blk_drewN ?_ _ | refine blk_drew ?_ | refine blk_alloc ?_ _)); refine blk_far ?_ NB124_126.out _; (with_reducible repeat (first | refine blk_drewN ?_ _ | refine blk_drew ?_ | refine blk_alloc ?_ _)); exact BK124.out⟩, ⟨by (with_reducible repeat (first | refine blk_drewN ?_ _ | refine blk_drew ?_ | refine blk_alloc ?_ _)); refine blk_put (cs := #[.int .i64 a1_4, .int .i64 a1_5, .slice none 0 0]) ?_ 2 _ rfl; (with_reducible repeat (first | refine blk_drewN ?_ _ | refine blk_drew ?_ | refine blk_alloc ?_ _)); refine blk_put (cs := #[.int .i64 a1_4, .int .i64 0, .slice none 0 0]) ?_ 1 _ rfl; (with_reducible repeat (first | refine blk_drewN ?_ _ | refine blk_drew ?_ | refine blk_alloc ?_ _)); refine blk_put (cs := #[.int .i64 0, .int .i64 0, .slice none 0 0]) ?_ 0 _ rfl; (with_reducible repeat (first | refine blk_drewN ?_ _ | refine blk_drew ?_ | refine blk_alloc ?_ _)); exact BK126.out⟩, ⟨by repeat (first | (with_reducible first | exact HB.out | apply below_alloc | apply pw_below_drewN | apply below_drew1 | refine below_set ?_ GE122.out | refine below_set ?_ GE123.out | refine below_set ?_ GE124.out | refine below_set ?_ GE126.out) | exact HB.out)⟩⟩
                        case round => as_aux_lemma =>
                          clear H'
                          try clear c1
                          try clear c2
                          try clear p2
                          try clear c3
                          try clear c4
                          try clear c4b0
                          try clear c4b1
                          try clear c5
                          try clear c6
                          try clear p6
                          try clear c7
                          try clear c8
                          try clear c9
                          try clear c10
                          try clear c11
                          try clear c13
                          try clear c13b0
                          try clear c14
                          try clear c15
                          try clear c17
                          try clear c17b0
                          try clear c18
                          try clear c19
                          try clear c21
                          try clear c21b0
                          try clear c22
                          try clear c23
                          try clear c25
                          try clear c26
                          try clear c28
                          try clear c29
                          try clear c30
                          try clear c33
                          try clear c33b0
                          try clear c34
                          try clear c35
                          try clear c37
                          try clear c39
                          try clear c39b0
                          try clear c40
                          try clear c41
                          try clear c43
                          try clear c45
                          try clear c45b0
                          try clear c46
                          try clear c47
                          try clear c49
                          try clear c51
                          try clear c52
                          try clear c54
                          try clear c56
                          try clear c57
                          try clear c58
                          try clear c60
                          try clear c60b0
                          try clear c61
                          try clear c62
                          try clear c64
                          try clear p64
                          try clear c66
                          try clear c66b0
                          try clear c67
                          try clear c68
                          try clear c70
                          try clear c72
                          try clear c72b0
                          try clear c73
                          try clear c74
                          try clear c76
                          try clear c78
                          try clear c78b0
                          try clear c79
                          try clear c80
                          try clear c82
                          try clear c84
                          try clear c85
                          try clear c88
                          try clear c89
                          try clear c90
                          try clear hcz11_0
                          try clear hcz11_1
                          try clear hcz11_2
                          try clear hcz16_0
                          try clear hcz16_1
                          try clear hcz16_2
                          try clear hcz16_3
                          try clear hcz16_4
                          try clear hcz16_5
                          try clear hcz20_0
                          try clear hcz20_1
                          try clear hcz20_2
                          try clear hcz20_3
                          try clear hcz20_4
                          try clear hcz20_5
                          try clear hcz24_0
                          try clear hcz24_1
                          try clear hcz24_2
                          try clear hcz24_3
                          try clear hcz24_4
                          try clear hcz24_5
                          try clear hcz27_0
                          try clear hcz27_1
                          try clear hcz27_2
                          try clear hcz27_3
                          try clear hcz27_4
                          try clear hcz27_5
                          try clear hcz31_0
                          try clear hcz31_1
                          try clear hcz31_2
                          try clear hcz36_0
                          try clear hcz36_1
                          try clear hcz36_2
                          try clear hcz36_3
                          try clear hcz36_4
                          try clear hcz36_5
                          try clear hcz38_0
                          try clear hcz38_1
                          try clear hcz38_2
                          try clear hcz42_0
                          try clear hcz42_1
                          try clear hcz42_2
                          try clear hcz42_3
                          try clear hcz42_4
                          try clear hcz42_5
                          try clear hcz44_0
                          try clear hcz44_1
                          try clear hcz44_2
                          try clear hcz48_0
                          try clear hcz48_1
                          try clear hcz48_2
                          try clear hcz48_3
                          try clear hcz48_4
                          try clear hcz48_5
                          try clear hcz50_0
                          try clear hcz50_1
                          try clear hcz50_2
                          try clear hcz53_0
                          try clear hcz53_1
                          try clear hcz53_2
                          try clear hcz53_3
                          try clear hcz53_4
                          try clear hcz53_5
                          try clear hcz55_0
                          try clear hcz55_1
                          try clear hcz55_2
                          try clear hcz59_0
                          try clear hcz59_1
                          try clear hcz59_2
                          try clear hcz63_0
                          try clear hcz63_1
                          try clear hcz63_2
                          try clear hcz63_3
                          try clear hcz63_4
                          try clear hcz63_5
                          try clear hcz65_0
                          try clear hcz65_1
                          try clear hcz65_2
                          try clear hcz69_0
                          try clear hcz69_1
                          try clear hcz69_2
                          try clear hcz69_3
                          try clear hcz69_4
                          try clear hcz69_5
                          try clear hcz71_0
                          try clear hcz71_1
                          try clear hcz71_2
                          try clear hcz75_0
                          try clear hcz75_1
                          try clear hcz75_2
                          try clear hcz75_3
                          try clear hcz75_4
                          try clear hcz75_5
                          try clear hcz77_0
                          try clear hcz77_1
                          try clear hcz77_2
                          try clear hcz81_0
                          try clear hcz81_1
                          try clear hcz81_2
                          try clear hcz81_3
                          try clear hcz81_4
                          try clear hcz81_5
                          try clear hcz83_0
                          try clear hcz83_1
                          try clear hcz83_2
                          try clear hcz86_0
                          try clear hcz86_1
                          try clear hcz86_2
                          try clear hcz86_3
                          try clear hcz86_4
                          try clear hcz86_5
                          try clear hcz91_0
                          try clear hcz91_1
                          try clear hcz91_2
                          try clear hcz92_0
                          try clear hcz92_1
                          try clear hcz92_2
                          try clear hcz92_3
                          try clear hcz92_4
                          try clear hcz92_5
                          try clear hfz11_0
                          try clear hfz11_1
                          try clear hfz11_2
                          try clear hfz16_0
                          try clear hfz16_1
                          try clear hfz16_2
                          try clear hfz16_3
                          try clear hfz16_4
                          try clear hfz16_5
                          try clear hfz20_0
                          try clear hfz20_1
                          try clear hfz20_2
                          try clear hfz20_3
                          try clear hfz20_4
                          try clear hfz20_5
                          try clear hfz24_0
                          try clear hfz24_1
                          try clear hfz24_2
                          try clear hfz24_3
                          try clear hfz24_4
                          try clear hfz24_5
                          try clear hfz27_0
                          try clear hfz27_1
                          try clear hfz27_2
                          try clear hfz27_3
                          try clear hfz27_4
                          try clear hfz27_5
                          try clear hfz31_0
                          try clear hfz31_1
                          try clear hfz31_2
                          try clear hfz36_0
                          try clear hfz36_1
                          try clear hfz36_2
                          try clear hfz36_3
                          try clear hfz36_4
                          try clear hfz36_5
                          try clear hfz38_0
                          try clear hfz38_1
                          try clear hfz38_2
                          try clear hfz42_0
                          try clear hfz42_1
                          try clear hfz42_2
                          try clear hfz42_3
                          try clear hfz42_4
                          try clear hfz42_5
                          try clear hfz44_0
                          try clear hfz44_1
                          try clear hfz44_2
                          try clear hfz48_0
                          try clear hfz48_1
                          try clear hfz48_2
                          try clear hfz48_3
                          try clear hfz48_4
                          try clear hfz48_5
                          try clear hfz50_0
                          try clear hfz50_1
                          try clear hfz50_2
                          try clear hfz53_0
                          try clear hfz53_1
                          try clear hfz53_2
                          try clear hfz53_3
                          try clear hfz53_4
                          try clear hfz53_5
                          try clear hfz55_0
                          try clear hfz55_1
                          try clear hfz55_2
                          try clear hfz59_0
                          try clear hfz59_1
                          try clear hfz59_2
                          try clear hfz63_0
                          try clear hfz63_1
                          try clear hfz63_2
                          try clear hfz63_3
                          try clear hfz63_4
                          try clear hfz63_5
                          try clear hfz65_0
                          try clear hfz65_1
                          try clear hfz65_2
                          try clear hfz69_0
                          try clear hfz69_1
                          try clear hfz69_2
                          try clear hfz69_3
                          try clear hfz69_4
                          try clear hfz69_5
                          try clear hfz71_0
                          try clear hfz71_1
                          try clear hfz71_2
                          try clear hfz75_0
                          try clear hfz75_1
                          try clear hfz75_2
                          try clear hfz75_3
                          try clear hfz75_4
                          try clear hfz75_5
                          try clear hfz77_0
                          try clear hfz77_1
                          try clear hfz77_2
                          try clear hfz81_0
                          try clear hfz81_1
                          try clear hfz81_2
                          try clear hfz81_3
                          try clear hfz81_4
                          try clear hfz81_5
                          try clear hfz83_0
                          try clear hfz83_1
                          try clear hfz83_2
                          try clear hfz86_0
                          try clear hfz86_1
                          try clear hfz86_2
                          try clear hfz86_3
                          try clear hfz86_4
                          try clear hfz86_5
                          try clear hfz91_0
                          try clear hfz91_1
                          try clear hfz91_2
                          try clear hfz92_0
                          try clear hfz92_1
                          try clear hfz92_2
                          try clear hfz92_3
                          try clear hfz92_4
                          try clear hfz92_5
                          try clear p2
                          try clear p6
                          obtain ⟨x108_3, x127002_3, u127002, rfl, HA, HK3, HO_127002, BK122, BK123, BK124, BK126, HB⟩ := hrel
                          cases gk with
                          | zero => exact absurd HA.out (by simp [asset_Render.l0])
                          | succ k3 =>
                            have H := HA.out
                            clear HA
                            simp only [asset_Render.l0] at H
                            by_cases c93 : x108_3 < a1_5
                            · rw [if_pos c93] at H
                              have c93b0 : decide (x108_3 < a1_5) = true := decide_eq_true c93
                              clear c93
                              have H' := Aside0.mk H
                              clear H
                              have hnb94 := NB123_122.out
                              have hnc94 := NB122_123.out
                              have hnb95 := NB123_124.out
                              have hnc95 := NB124_123.out
                              have hnb96 := NB123_126.out
                              have hnc96 := NB126_123.out
                              have hcz97_0 : wr.cell? ⟨gb123, 0, none⟩ = some (.int .i64 a1_0) := (blk_cell BK123.out 0).trans rfl
                              have hcz97_1 : wr.cell? ⟨gb123, 1, none⟩ = some (.int .i64 a1_1) := (blk_cell BK123.out 1).trans rfl
                              have hcz97_2 : wr.cell? ⟨gb123, 2, none⟩ = some (.int .i64 a1_2) := (blk_cell BK123.out 2).trans rfl
                              have hcz97_3 : wr.cell? ⟨gb123, 3, none⟩ = some (.int .i64 a1_3) := (blk_cell BK123.out 3).trans rfl
                              have hcz97_4 : wr.cell? ⟨gb123, 4, none⟩ = some (.int .i64 a1_4) := (blk_cell BK123.out 4).trans rfl
                              have hcz97_5 : wr.cell? ⟨gb123, 5, none⟩ = some (.int .i64 a1_5) := (blk_cell BK123.out 5).trans rfl
                              have hfz97_0 := blk_frozen BK123.out 0
                              have hfz97_1 := blk_frozen BK123.out 1
                              have hfz97_2 := blk_frozen BK123.out 2
                              have hfz97_3 := blk_frozen BK123.out 3
                              have hfz97_4 := blk_frozen BK123.out 4
                              have hfz97_5 := blk_frozen BK123.out 5
                              go_wp2
                              go_loopg [113] k3 (fun kq v113 w' => ∃ (x113_4 : Int) (x127002_4 : List Int) (u127002 : Value), v113 = .int .i64 x113_4 ∧ Aside0 (asset_Render.l1 kq (wrap64 (a1_2 * a1_3)) x108_3 a1_5 x108_3 a1_4 x113_4 a0_0 a0_1 l0_2 a1_0 a1_1 a1_2 a1_3 a1_4 a1_5 a1_4 a1_5 x127002_4 = some (r1, r2, r3, r4)) ∧ Aside0 (kq ≤ k3) ∧ Aside0 (Kd.R (Kd.int .i64) 3 w' w.heap.size (fun _ => True) u127002 x127002_4) ∧ Aside0 (w'.heap[gb122]? = some (.cells #[.int .i64 a0_0, .int .i64 a0_1, (.slice A0_2 l0_2.length c0_2)] 29 (0, 0))) ∧ Aside0 (w'.heap[gb123]? = some (.cells #[.int .i64 a1_0, .int .i64 a1_1, .int .i64 a1_2, .int .i64 a1_3, .int .i64 a1_4, .int .i64 a1_5] 33 (0, 0))) ∧ Aside0 (w'.heap[gb124]? = some (.cells #[.int .i64 0, .int .i64 0, (.slice none 0 0)] 29 (0, 0))) ∧ Aside0 (w'.heap[gb126]? = some (.cells #[.int .i64 a1_4, .int .i64 a1_5, u127002] 29 (0, 0))) ∧ Aside0 (Below w.heap.size w w'))
                              case atStart => exact ⟨(0), (x127002_3), (u127002), (by first | rfl | (simp; done) | (simp [*]; done)), H', ⟨Nat.le_refl _⟩, ⟨by (with_reducible repeat (first | apply Kd.R_alloc | apply Kd.R_drewN | apply Kd.R_drew)); exact HO_127002.out⟩, ⟨by (with_reducible repeat (first | refine blk_drewN ?_ _ | refine blk_drew ?_ | refine blk_alloc ?_ _)); exact BK122.out⟩, ⟨by (with_reducible repeat (first | refine blk_drewN ?_ _ | refine blk_drew ?_ | refine blk_alloc ?_ _)); exact BK123.out⟩, ⟨by (with_reducible repeat (first | refine blk_drewN ?_ _ | refine blk_drew ?_ | refine blk_alloc ?_ _)); exact BK124.out⟩, ⟨by (with_reducible repeat (first | refine blk_drewN ?_ _ | refine blk_drew ?_ | refine blk_alloc ?_ _)); exact BK126.out⟩, ⟨by repeat (first | (with_reducible first | exact HB.out | apply below_alloc | apply pw_below_drewN | apply below_drew1 | refine below_set ?_ GE122.out | refine below_set ?_ GE123.out | refine below_set ?_ GE124.out | refine below_set ?_ GE126.out) | exact HB.out)⟩⟩
                              case round => as_aux_lemma =>
                                clear H'
                                try clear c1
                                try clear c2
                                try clear p2
                                try clear c3
                                try clear c4
                                try clear c4b0
                                try clear c4b1
                                try clear c5
                                try clear c6
                                try clear p6
                                try clear c7
                                try clear c8
                                try clear c9
                                try clear c10
                                try clear c11
                                try clear c13
                                try clear c13b0
                                try clear c14
                                try clear c15
                                try clear c17
                                try clear c17b0
                                try clear c18
                                try clear c19
                                try clear c21
                                try clear c21b0
                                try clear c22
                                try clear c23
                                try clear c25
                                try clear c26
                                try clear c28
                                try clear c29
                                try clear c30
                                try clear c33
                                try clear c33b0
                                try clear c34
                                try clear c35
                                try clear c37
                                try clear c39
                                try clear c39b0
                                try clear c40
                                try clear c41
                                try clear c43
                                try clear c45
                                try clear c45b0
                                try clear c46
                                try clear c47
                                try clear c49
                                try clear c51
                                try clear c52
                                try clear c54
                                try clear c56
                                try clear c57
                                try clear c58
                                try clear c60
                                try clear c60b0
                                try clear c61
                                try clear c62
                                try clear c64
                                try clear p64
                                try clear c66
                                try clear c66b0
                                try clear c67
                                try clear c68
                                try clear c70
                                try clear c72
                                try clear c72b0
                                try clear c73
                                try clear c74
                                try clear c76
                                try clear c78
                                try clear c78b0
                                try clear c79
                                try clear c80
                                try clear c82
                                try clear c84
                                try clear c85
                                try clear c88
                                try clear c89
                                try clear c90
                                try clear c93
                                try clear c93b0
                                try clear c94
                                try clear c95
                                try clear c96
                                try clear hcz11_0
                                try clear hcz11_1
                                try clear hcz11_2
                                try clear hcz16_0
                                try clear hcz16_1
                                try clear hcz16_2
                                try clear hcz16_3
                                try clear hcz16_4
                                try clear hcz16_5
                                try clear hcz20_0
                                try clear hcz20_1
                                try clear hcz20_2
                                try clear hcz20_3
                                try clear hcz20_4
                                try clear hcz20_5
                                try clear hcz24_0
                                try clear hcz24_1
                                try clear hcz24_2
                                try clear hcz24_3
                                try clear hcz24_4
                                try clear hcz24_5
                                try clear hcz27_0
                                try clear hcz27_1
                                try clear hcz27_2
                                try clear hcz27_3
                                try clear hcz27_4
                                try clear hcz27_5
                                try clear hcz31_0
                                try clear hcz31_1
                                try clear hcz31_2
                                try clear hcz36_0
                                try clear hcz36_1
                                try clear hcz36_2
                                try clear hcz36_3
                                try clear hcz36_4
                                try clear hcz36_5
                                try clear hcz38_0
                                try clear hcz38_1
                                try clear hcz38_2
                                try clear hcz42_0
                                try clear hcz42_1
                                try clear hcz42_2
                                try clear hcz42_3
                                try clear hcz42_4
                                try clear hcz42_5
                                try clear hcz44_0
                                try clear hcz44_1
                                try clear hcz44_2
                                try clear hcz48_0
                                try clear hcz48_1
                                try clear hcz48_2
                                try clear hcz48_3
                                try clear hcz48_4
                                try clear hcz48_5
                                try clear hcz50_0
                                try clear hcz50_1
                                try clear hcz50_2
                                try clear hcz53_0
                                try clear hcz53_1
                                try clear hcz53_2
                                try clear hcz53_3
                                try clear hcz53_4
                                try clear hcz53_5
                                try clear hcz55_0
                                try clear hcz55_1
                                try clear hcz55_2
                                try clear hcz59_0
                                try clear hcz59_1
                                try clear hcz59_2
                                try clear hcz63_0
                                try clear hcz63_1
                                try clear hcz63_2
                                try clear hcz63_3
                                try clear hcz63_4
                                try clear hcz63_5
                                try clear hcz65_0
                                try clear hcz65_1
                                try clear hcz65_2
                                try clear hcz69_0
                                try clear hcz69_1
                                try clear hcz69_2
                                try clear hcz69_3
                                try clear hcz69_4
                                try clear hcz69_5
                                try clear hcz71_0
                                try clear hcz71_1
                                try clear hcz71_2
                                try clear hcz75_0
                                try clear hcz75_1
                                try clear hcz75_2
                                try clear hcz75_3
                                try clear hcz75_4
                                try clear hcz75_5
                                try clear hcz77_0
                                try clear hcz77_1
                                try clear hcz77_2
                                try clear hcz81_0
                                try clear hcz81_1
                                try clear hcz81_2
                                try clear hcz81_3
                                try clear hcz81_4
                                try clear hcz81_5
                                try clear hcz83_0
                                try clear hcz83_1
                                try clear hcz83_2
                                try clear hcz86_0
                                try clear hcz86_1
                                try clear hcz86_2
                                try clear hcz86_3
                                try clear hcz86_4
                                try clear hcz86_5
                                try clear hcz91_0
                                try clear hcz91_1
                                try clear hcz91_2
                                try clear hcz92_0
                                try clear hcz92_1
                                try clear hcz92_2
                                try clear hcz92_3
                                try clear hcz92_4
                                try clear hcz92_5
                                try clear hcz97_0
                                try clear hcz97_1
                                try clear hcz97_2
                                try clear hcz97_3
                                try clear hcz97_4
                                try clear hcz97_5
                                try clear hfz11_0
                                try clear hfz11_1
                                try clear hfz11_2
                                try clear hfz16_0
                                try clear hfz16_1
                                try clear hfz16_2
                                try clear hfz16_3
                                try clear hfz16_4
                                try clear hfz16_5
                                try clear hfz20_0
                                try clear hfz20_1
                                try clear hfz20_2
                                try clear hfz20_3
                                try clear hfz20_4
                                try clear hfz20_5
                                try clear hfz24_0
                                try clear hfz24_1
                                try clear hfz24_2
                                try clear hfz24_3
                                try clear hfz24_4
                                try clear hfz24_5
                                try clear hfz27_0
                                try clear hfz27_1
                                try clear hfz27_2
                                try clear hfz27_3
                                try clear hfz27_4
                                try clear hfz27_5
                                try clear hfz31_0
                                try clear hfz31_1
                                try clear hfz31_2
                                try clear hfz36_0
                                try clear hfz36_1
                                try clear hfz36_2
                                try clear hfz36_3
                                try clear hfz36_4
                                try clear hfz36_5
                                try clear hfz38_0
                                try clear hfz38_1
                                try clear hfz38_2
                                try clear hfz42_0
                                try clear hfz42_1
                                try clear hfz42_2
                                try clear hfz42_3
                                try clear hfz42_4
                                try clear hfz42_5
                                try clear hfz44_0
                                try clear hfz44_1
                                try clear hfz44_2
                                try clear hfz48_0
                                try clear hfz48_1
                                try clear hfz48_2
                                try clear hfz48_3
                                try clear hfz48_4
                                try clear hfz48_5
                                try clear hfz50_0
                                try clear hfz50_1
                                try clear hfz50_2
                                try clear hfz53_0
                                try clear hfz53_1
                                try clear hfz53_2
                                try clear hfz53_3
                                try clear hfz53_4
                                try clear hfz53_5
                                try clear hfz55_0
                                try clear hfz55_1
                                try clear hfz55_2
                                try clear hfz59_0
                                try clear hfz59_1
                                try clear hfz59_2
                                try clear hfz63_0
                                try clear hfz63_1
                                try clear hfz63_2
                                try clear hfz63_3
                                try clear hfz63_4
                                try clear hfz63_5
                                try clear hfz65_0
                                try clear hfz65_1
                                try clear hfz65_2
                                try clear hfz69_0
                                try clear hfz69_1
                                try clear hfz69_2
                                try clear hfz69_3
                                try clear hfz69_4
                                try clear hfz69_5
                                try clear hfz71_0
                                try clear hfz71_1
                                try clear hfz71_2
                                try clear hfz75_0
                                try clear hfz75_1
                                try clear hfz75_2
                                try clear hfz75_3
                                try clear hfz75_4
                                try clear hfz75_5
                                try clear hfz77_0
                                try clear hfz77_1
                                try clear hfz77_2
                                try clear hfz81_0
                                try clear hfz81_1
                                try clear hfz81_2
                                try clear hfz81_3
                                try clear hfz81_4
                                try clear hfz81_5
                                try clear hfz83_0
                                try clear hfz83_1
                                try clear hfz83_2
                                try clear hfz86_0
                                try clear hfz86_1
                                try clear hfz86_2
                                try clear hfz86_3
                                try clear hfz86_4
                                try clear hfz86_5
                                try clear hfz91_0
                                try clear hfz91_1
                                try clear hfz91_2
                                try clear hfz92_0
                                try clear hfz92_1
                                try clear hfz92_2
                                try clear hfz92_3
                                try clear hfz92_4
                                try clear hfz92_5
                                try clear hfz97_0
                                try clear hfz97_1
                                try clear hfz97_2
                                try clear hfz97_3
                                try clear hfz97_4
                                try clear hfz97_5
                                try clear p2
                                try clear p6
                                try clear p64
                                obtain ⟨x113_4, x127002_4, u127002, rfl, HA, HK4, HO_127002, BK122, BK123, BK124, BK126, HB⟩ := hrel
                                cases gk with
                                | zero => exact absurd HA.out (by simp [asset_Render.l1])
                                | succ k4 =>
                                  have H := HA.out
                                  clear HA
                                  simp only [asset_Render.l1] at H
                                  by_cases c98 : x113_4 < a1_4
                                  · rw [if_pos c98] at H
                                    have c98b0 : decide (x113_4 < a1_4) = true := decide_eq_true c98
                                    clear c98
                                    by_cases c99 : a1_5 = 0
                                    · rw [if_pos c99] at H
                                      exact absurd H (by simp)
                                    · rw [if_neg c99] at H
                                      have c99b0 : (a1_5 == 0) = false := beq_eq_false_iff_ne.mpr c99
                                      have c99b1 : (a1_5 != 0) = true := bne_iff_ne.mpr c99
                                      have H' := Aside0.mk H
                                      clear H
                                      have hnb100 := NB123_122.out
                                      have hnc100 := NB122_123.out
                                      have hnb101 := NB123_124.out
                                      have hnc101 := NB124_123.out
                                      have hnb102 := NB123_126.out
                                      have hnc102 := NB126_123.out
                                      have hcz103_0 : wr.cell? ⟨gb123, 0, none⟩ = some (.int .i64 a1_0) := (blk_cell BK123.out 0).trans rfl
                                      have hcz103_1 : wr.cell? ⟨gb123, 1, none⟩ = some (.int .i64 a1_1) := (blk_cell BK123.out 1).trans rfl
                                      have hcz103_2 : wr.cell? ⟨gb123, 2, none⟩ = some (.int .i64 a1_2) := (blk_cell BK123.out 2).trans rfl
                                      have hcz103_3 : wr.cell? ⟨gb123, 3, none⟩ = some (.int .i64 a1_3) := (blk_cell BK123.out 3).trans rfl
                                      have hcz103_4 : wr.cell? ⟨gb123, 4, none⟩ = some (.int .i64 a1_4) := (blk_cell BK123.out 4).trans rfl
                                      have hcz103_5 : wr.cell? ⟨gb123, 5, none⟩ = some (.int .i64 a1_5) := (blk_cell BK123.out 5).trans rfl
                                      have hfz103_0 := blk_frozen BK123.out 0
                                      have hfz103_1 := blk_frozen BK123.out 1
                                      have hfz103_2 := blk_frozen BK123.out 2
                                      have hfz103_3 := blk_frozen BK123.out 3
                                      have hfz103_4 := blk_frozen BK123.out 4
                                      have hfz103_5 := blk_frozen BK123.out 5
                                      go_wp2
                                      go_loopg [11, 12] k4 (fun kq v11 v12 w' => ∃ (x11_5 : Int) (x12_5 : Int), v11 = .int .i64 x11_5 ∧ v12 = .int .i64 x12_5 ∧ Aside0 (asset_Render.l2 kq (wrap64 (a1_2 * a1_3)) x108_3 x113_4 x11_5 x12_5 a1_5 x108_3 a1_4 x113_4 a0_0 a0_1 l0_2 a1_0 a1_1 a1_2 a1_3 a1_4 a1_5 a1_4 a1_5 x127002_4 = some (r1, r2, r3, r4)) ∧ Aside0 (kq ≤ k4) ∧ Aside0 (Kd.R (Kd.int .i64) 3 w' w.heap.size (fun _ => True) u127002 x127002_4) ∧ Aside0 (w'.heap[gb122]? = some (.cells #[.int .i64 a0_0, .int .i64 a0_1, (.slice A0_2 l0_2.length c0_2)] 29 (0, 0))) ∧ Aside0 (w'.heap[gb123]? = some (.cells #[.int .i64 a1_0, .int .i64 a1_1, .int .i64 a1_2, .int .i64 a1_3, .int .i64 a1_4, .int .i64 a1_5] 33 (0, 0))) ∧ Aside0 (w'.heap[gb124]? = some (.cells #[.int .i64 0, .int .i64 0, (.slice none 0 0)] 29 (0, 0))) ∧ Aside0 (w'.heap[gb126]? = some (.cells #[.int .i64 a1_4, .int .i64 a1_5, u127002] 29 (0, 0))) ∧ Aside0 (Below w.heap.size w w'))
                                      case atStart => exact ⟨(0), (wrap64 (Int.tdiv (wrap64 (x108_3 * a1_3)) a1_5)), (by first | rfl | (simp; done) | (simp [*]; done)), (by first | rfl | (simp; done) | (simp [*]; done)), H', ⟨Nat.le_refl _⟩, ⟨by (with_reducible repeat (first | apply Kd.R_alloc | apply Kd.R_drewN | apply Kd.R_drew)); exact HO_127002.out⟩, ⟨by (with_reducible repeat (first | refine blk_drewN ?_ _ | refine blk_drew ?_ | refine blk_alloc ?_ _)); exact BK122.out⟩, ⟨by (with_reducible repeat (first | refine blk_drewN ?_ _ | refine blk_drew ?_ | refine blk_alloc ?_ _)); exact BK123.out⟩, ⟨by (with_reducible repeat (first | refine blk_drewN ?_ _ | refine blk_drew ?_ | refine blk_alloc ?_ _)); exact BK124.out⟩, ⟨by (with_reducible repeat (first | refine blk_drewN ?_ _ | refine blk_drew ?_ | refine blk_alloc ?_ _)); exact BK126.out⟩, ⟨by repeat (first | (with_reducible first | exact HB.out | apply below_alloc | apply pw_below_drewN | apply below_drew1 | refine below_set ?_ GE122.out | refine below_set ?_ GE123.out | refine below_set ?_ GE124.out | refine below_set ?_ GE126.out) | exact HB.out)⟩⟩
                                      case round => as_aux_lemma =>
                                        clear H'
                                        try clear c1
                                        try clear c2
                                        try clear p2
                                        try clear c3
                                        try clear c4
                                        try clear c4b0
                                        try clear c4b1
                                        try clear c5
                                        try clear c6
                                        try clear p6
                                        try clear c7
                                        try clear c8
                                        try clear c9
                                        try clear c10
                                        try clear c11
                                        try clear c13
                                        try clear c13b0
                                        try clear c14
                                        try clear c15
                                        try clear c17
                                        try clear c17b0
                                        try clear c18
                                        try clear c19
                                        try clear c21
                                        try clear c21b0
                                        try clear c22
                                        try clear c23
                                        try clear c25
                                        try clear c26
                                        try clear c28
                                        try clear c29
                                        try clear c30
                                        try clear c33
                                        try clear c33b0
                                        try clear c34
                                        try clear c35
                                        try clear c37
                                        try clear c39
                                        try clear c39b0
                                        try clear c40
                                        try clear c41
                                        try clear c43
                                        try clear c45
                                        try clear c45b0
                                        try clear c46
                                        try clear c47
                                        try clear c49
                                        try clear c51
                                        try clear c52
                                        try clear c54
                                        try clear c56
                                        try clear c57
                                        try clear c58
                                        try clear c60
                                        try clear c60b0
                                        try clear c61
                                        try clear c62
                                        try clear c64
                                        try clear p64
                                        try clear c66
                                        try clear c66b0
                                        try clear c67
                                        try clear c68
                                        try clear c70
                                        try clear c72
                                        try clear c72b0
                                        try clear c73
                                        try clear c74
                                        try clear c76
                                        try clear c78
                                        try clear c78b0
                                        try clear c79
                                        try clear c80
                                        try clear c82
                                        try clear c84
                                        try clear c85
                                        try clear c88
                                        try clear c89
                                        try clear c90
                                        try clear c93
                                        try clear c93b0
                                        try clear c94
                                        try clear c95
                                        try clear c96
                                        try clear c98
                                        try clear c98b0
                                        try clear c99
                                        try clear c99b0
                                        try clear c99b1
                                        try clear c100
                                        try clear c101
                                        try clear c102
                                        try clear hcz103_0
                                        try clear hcz103_1
                                        try clear hcz103_2
                                        try clear hcz103_3
                                        try clear hcz103_4
                                        try clear hcz103_5
                                        try clear hcz11_0
                                        try clear hcz11_1
                                        try clear hcz11_2
                                        try clear hcz16_0
                                        try clear hcz16_1
                                        try clear hcz16_2
                                        try clear hcz16_3
                                        try clear hcz16_4
                                        try clear hcz16_5
                                        try clear hcz20_0
                                        try clear hcz20_1
                                        try clear hcz20_2
                                        try clear hcz20_3
                                        try clear hcz20_4
                                        try clear hcz20_5
                                        try clear hcz24_0
                                        try clear hcz24_1
                                        try clear hcz24_2
                                        try clear hcz24_3
                                        try clear hcz24_4
                                        try clear hcz24_5
                                        try clear hcz27_0
                                        try clear hcz27_1
                                        try clear hcz27_2
                                        try clear hcz27_3
                                        try clear hcz27_4
                                        try clear hcz27_5
                                        try clear hcz31_0
                                        try clear hcz31_1
                                        try clear hcz31_2
                                        try clear hcz36_0
                                        try clear hcz36_1
                                        try clear hcz36_2
                                        try clear hcz36_3
                                        try clear hcz36_4
                                        try clear hcz36_5
                                        try clear hcz38_0
                                        try clear hcz38_1
                                        try clear hcz38_2
                                        try clear hcz42_0
                                        try clear hcz42_1
                                        try clear hcz42_2
                                        try clear hcz42_3
                                        try clear hcz42_4
                                        try clear hcz42_5
                                        try clear hcz44_0
                                        try clear hcz44_1
                                        try clear hcz44_2
                                        try clear hcz48_0
                                        try clear hcz48_1
                                        try clear hcz48_2
                                        try clear hcz48_3
                                        try clear hcz48_4
                                        try clear hcz48_5
                                        try clear hcz50_0
                                        try clear hcz50_1
                                        try clear hcz50_2
                                        try clear hcz53_0
                                        try clear hcz53_1
                                        try clear hcz53_2
                                        try clear hcz53_3
                                        try clear hcz53_4
                                        try clear hcz53_5
                                        try clear hcz55_0
                                        try clear hcz55_1
                                        try clear hcz55_2
                                        try clear hcz59_0
                                        try clear hcz59_1
                                        try clear hcz59_2
                                        try clear hcz63_0
                                        try clear hcz63_1
                                        try clear hcz63_2
                                        try clear hcz63_3
                                        try clear hcz63_4
                                        try clear hcz63_5
                                        try clear hcz65_0
                                        try clear hcz65_1
                                        try clear hcz65_2
                                        try clear hcz69_0
                                        try clear hcz69_1
                                        try clear hcz69_2
                                        try clear hcz69_3
                                        try clear hcz69_4
                                        try clear hcz69_5
                                        try clear hcz71_0
                                        try clear hcz71_1
                                        try clear hcz71_2
                                        try clear hcz75_0
                                        try clear hcz75_1
                                        try clear hcz75_2
                                        try clear hcz75_3
                                        try clear hcz75_4
                                        try clear hcz75_5
                                        try clear hcz77_0
                                        try clear hcz77_1
                                        try clear hcz77_2
                                        try clear hcz81_0
                                        try clear hcz81_1
                                        try clear hcz81_2
                                        try clear hcz81_3
                                        try clear hcz81_4
                                        try clear hcz81_5
                                        try clear hcz83_0
                                        try clear hcz83_1
                                        try clear hcz83_2
                                        try clear hcz86_0
                                        try clear hcz86_1
                                        try clear hcz86_2
                                        try clear hcz86_3
                                        try clear hcz86_4
                                        try clear hcz86_5
                                        try clear hcz91_0
                                        try clear hcz91_1
                                        try clear hcz91_2
                                        try clear hcz92_0
                                        try clear hcz92_1
                                        try clear hcz92_2
                                        try clear hcz92_3
                                        try clear hcz92_4
                                        try clear hcz92_5
                                        try clear hcz97_0
                                        try clear hcz97_1
                                        try clear hcz97_2
                                        try clear hcz97_3
                                        try clear hcz97_4
                                        try clear hcz97_5
                                        try clear hfz103_0
                                        try clear hfz103_1
                                        try clear hfz103_2
                                        try clear hfz103_3
                                        try clear hfz103_4
                                        try clear hfz103_5
                                        try clear hfz11_0
                                        try clear hfz11_1
                                        try clear hfz11_2
                                        try clear hfz16_0
                                        try clear hfz16_1
                                        try clear hfz16_2
                                        try clear hfz16_3
                                        try clear hfz16_4
                                        try clear hfz16_5
                                        try clear hfz20_0
                                        try clear hfz20_1
                                        try clear hfz20_2
                                        try clear hfz20_3
                                        try clear hfz20_4
                                        try clear hfz20_5
                                        try clear hfz24_0
                                        try clear hfz24_1
                                        try clear hfz24_2
                                        try clear hfz24_3
                                        try clear hfz24_4
                                        try clear hfz24_5
                                        try clear hfz27_0
                                        try clear hfz27_1
                                        try clear hfz27_2
                                        try clear hfz27_3
                                        try clear hfz27_4
                                        try clear hfz27_5
                                        try clear hfz31_0
                                        try clear hfz31_1
                                        try clear hfz31_2
                                        try clear hfz36_0
                                        try clear hfz36_1
                                        try clear hfz36_2
                                        try clear hfz36_3
                                        try clear hfz36_4
                                        try clear hfz36_5
                                        try clear hfz38_0
                                        try clear hfz38_1
                                        try clear hfz38_2
                                        try clear hfz42_0
                                        try clear hfz42_1
                                        try clear hfz42_2
                                        try clear hfz42_3
                                        try clear hfz42_4
                                        try clear hfz42_5
                                        try clear hfz44_0
                                        try clear hfz44_1
                                        try clear hfz44_2
                                        try clear hfz48_0
                                        try clear hfz48_1
                                        try clear hfz48_2
                                        try clear hfz48_3
                                        try clear hfz48_4
                                        try clear hfz48_5
                                        try clear hfz50_0
                                        try clear hfz50_1
                                        try clear hfz50_2
                                        try clear hfz53_0
                                        try clear hfz53_1
                                        try clear hfz53_2
                                        try clear hfz53_3
                                        try clear hfz53_4
                                        try clear hfz53_5
                                        try clear hfz55_0
                                        try clear hfz55_1
                                        try clear hfz55_2
                                        try clear hfz59_0
                                        try clear hfz59_1
                                        try clear hfz59_2
                                        try clear hfz63_0
                                        try clear hfz63_1
                                        try clear hfz63_2
                                        try clear hfz63_3
                                        try clear hfz63_4
                                        try clear hfz63_5
                                        try clear hfz65_0
                                        try clear hfz65_1
                                        try clear hfz65_2
                                        try clear hfz69_0
                                        try clear hfz69_1
                                        try clear hfz69_2
                                        try clear hfz69_3
                                        try clear hfz69_4
                                        try clear hfz69_5
                                        try clear hfz71_0
                                        try clear hfz71_1
                                        try clear hfz71_2
                                        try clear hfz75_0
                                        try clear hfz75_1
                                        try clear hfz75_2
                                        try clear hfz75_3
                                        try clear hfz75_4
                                        try clear hfz75_5
                                        try clear hfz77_0
                                        try clear hfz77_1
                                        try clear hfz77_2
                                        try clear hfz81_0
                                        try clear hfz81_1
                                        try clear hfz81_2
                                        try clear hfz81_3
                                        try clear hfz81_4
                                        try clear hfz81_5
                                        try clear hfz83_0
                                        try clear hfz83_1
                                        try clear hfz83_2
                                        try clear hfz86_0
                                        try clear hfz86_1
                                        try clear hfz86_2
                                        try clear hfz86_3
                                        try clear hfz86_4
                                        try clear hfz86_5
                                        try clear hfz91_0
                                        try clear hfz91_1
                                        try clear hfz91_2
                                        try clear hfz92_0
                                        try clear hfz92_1
                                        try clear hfz92_2
                                        try clear hfz92_3
                                        try clear hfz92_4
                                        try clear hfz92_5
                                        try clear hfz97_0
                                        try clear hfz97_1
                                        try clear hfz97_2
                                        try clear hfz97_3
                                        try clear hfz97_4
                                        try clear hfz97_5
                                        try clear p2
                                        try clear p6
                                        try clear p64
                                        obtain ⟨x11_5, x12_5, rfl, rfl, HA, HK5, HO_127002, BK122, BK123, BK124, BK126, HB⟩ := hrel
                                        cases gk with
                                        | zero => exact absurd HA.out (by simp [asset_Render.l2])
                                        | succ k5 =>
                                          have H := HA.out
                                          clear HA
                                          simp only [asset_Render.l2] at H
                                          have HC104 := Aside0.mk H
                                          clear H
                                          go_upto_region 18 with (fail)
                                          go_cut [138] (fun v138 wc => ∃ (kq : Nat) (x138_103 : Bool), v138 = .bool x138_103 ∧ Aside0 (asset_Render.j5 kq (wrap64 (a1_2 * a1_3)) x108_3 x113_4 x11_5 x12_5 a1_5 x108_3 a1_4 x113_4 x138_103 a0_0 a0_1 l0_2 a1_0 a1_1 a1_2 a1_3 a1_4 a1_5 a1_4 a1_5 x127002_4 = some (r1, r2, r3, r4)) ∧ Aside0 (kq ≤ k5) ∧ Aside0 (Kd.R (Kd.int .i64) 3 wc w.heap.size (fun _ => True) u127002 x127002_4) ∧ Aside0 (wc.heap[gb122]? = some (.cells #[.int .i64 a0_0, .int .i64 a0_1, (.slice A0_2 l0_2.length c0_2)] 29 (0, 0))) ∧ Aside0 (wc.heap[gb123]? = some (.cells #[.int .i64 a1_0, .int .i64 a1_1, .int .i64 a1_2, .int .i64 a1_3, .int .i64 a1_4, .int .i64 a1_5] 33 (0, 0))) ∧ Aside0 (wc.heap[gb124]? = some (.cells #[.int .i64 0, .int .i64 0, (.slice none 0 0)] 29 (0, 0))) ∧ Aside0 (wc.heap[gb126]? = some (.cells #[.int .i64 a1_4, .int .i64 a1_5, u127002] 29 (0, 0))) ∧ Aside0 (Below w.heap.size w wc))
                                          case first => as_aux_lemma =>
                                            have H := HC104.out
                                            clear HC104
                                            by_cases c105 : x12_5 < a1_3
                                            · rw [if_pos c105] at H
                                              have c105b0 : decide (x12_5 < a1_3) = true := decide_eq_true c105
                                              clear c105
                                              (first | rw [c105b0] | (simp only [i64_w, i32_w]; rw [c105b0]) | skip)
                                              have H' := Aside0.mk H
                                              clear H
                                              have hnb106 := NB123_122.out
                                              have hnc106 := NB122_123.out
                                              have hnb107 := NB123_124.out
                                              have hnc107 := NB124_123.out
                                              have hnb108 := NB123_126.out
                                              have hnc108 := NB126_123.out
                                              have hcz109_0 : wr.cell? ⟨gb123, 0, none⟩ = some (.int .i64 a1_0) := (blk_cell BK123.out 0).trans rfl
                                              have hcz109_1 : wr.cell? ⟨gb123, 1, none⟩ = some (.int .i64 a1_1) := (blk_cell BK123.out 1).trans rfl
                                              have hcz109_2 : wr.cell? ⟨gb123, 2, none⟩ = some (.int .i64 a1_2) := (blk_cell BK123.out 2).trans rfl
                                              have hcz109_3 : wr.cell? ⟨gb123, 3, none⟩ = some (.int .i64 a1_3) := (blk_cell BK123.out 3).trans rfl
                                              have hcz109_4 : wr.cell? ⟨gb123, 4, none⟩ = some (.int .i64 a1_4) := (blk_cell BK123.out 4).trans rfl
                                              have hcz109_5 : wr.cell? ⟨gb123, 5, none⟩ = some (.int .i64 a1_5) := (blk_cell BK123.out 5).trans rfl
                                              have hfz109_0 := blk_frozen BK123.out 0
                                              have hfz109_1 := blk_frozen BK123.out 1
                                              have hfz109_2 := blk_frozen BK123.out 2
                                              have hfz109_3 := blk_frozen BK123.out 3
                                              have hfz109_4 := blk_frozen BK123.out 4
                                              have hfz109_5 := blk_frozen BK123.out 5
                                              go_wp2
                                              go_meet
                                              case rel => exact ⟨_, (decide ((wrap64 (x12_5 * a1_5)) < (wrap64 ((wrap64 (x108_3 + 1)) * a1_3)))), (by first | rfl | (simp; done) | (simp [*]; done)), H', ⟨by have := HJ4.out; have := HJ31.out; have := HK3.out; have := HK4.out; have := HK5.out; first | omega | exact Nat.le_refl _⟩, ⟨by (with_reducible repeat (first | apply Kd.R_alloc | apply Kd.R_drewN | apply Kd.R_drew)); exact HO_127002.out⟩, ⟨by (with_reducible repeat (first | refine blk_drewN ?_ _ | refine blk_drew ?_ | refine blk_alloc ?_ _)); exact BK122.out⟩, ⟨by (with_reducible repeat (first | refine blk_drewN ?_ _ | refine blk_drew ?_ | refine blk_alloc ?_ _)); exact BK123.out⟩, ⟨by (with_reducible repeat (first | refine blk_drewN ?_ _ | refine blk_drew ?_ | refine blk_alloc ?_ _)); exact BK124.out⟩, ⟨by (with_reducible repeat (first | refine blk_drewN ?_ _ | refine blk_drew ?_ | refine blk_alloc ?_ _)); exact BK126.out⟩, ⟨by repeat (first | (with_reducible first | exact HB.out | apply below_alloc | apply pw_below_drewN | apply below_drew1 | refine below_set ?_ GE122.out | refine below_set ?_ GE123.out | refine below_set ?_ GE124.out | refine below_set ?_ GE126.out) | exact HB.out)⟩⟩
                                            · rw [if_neg c105] at H
                                              have c105b0 : decide (x12_5 < a1_3) = false := decide_eq_false c105
                                              clear c105
                                              (first | rw [c105b0] | (simp only [i64_w, i32_w]; rw [c105b0]) | skip)
                                              have H' := Aside0.mk H
                                              clear H
                                              have hnb110 := NB123_122.out
                                              have hnc110 := NB122_123.out
                                              have hnb111 := NB123_124.out
                                              have hnc111 := NB124_123.out
                                              have hnb112 := NB123_126.out
                                              have hnc112 := NB126_123.out
                                              have hcz113_0 : wr.cell? ⟨gb123, 0, none⟩ = some (.int .i64 a1_0) := (blk_cell BK123.out 0).trans rfl
                                              have hcz113_1 : wr.cell? ⟨gb123, 1, none⟩ = some (.int .i64 a1_1) := (blk_cell BK123.out 1).trans rfl
                                              have hcz113_2 : wr.cell? ⟨gb123, 2, none⟩ = some (.int .i64 a1_2) := (blk_cell BK123.out 2).trans rfl
                                              have hcz113_3 : wr.cell? ⟨gb123, 3, none⟩ = some (.int .i64 a1_3) := (blk_cell BK123.out 3).trans rfl
                                              have hcz113_4 : wr.cell? ⟨gb123, 4, none⟩ = some (.int .i64 a1_4) := (blk_cell BK123.out 4).trans rfl
                                              have hcz113_5 : wr.cell? ⟨gb123, 5, none⟩ = some (.int .i64 a1_5) := (blk_cell BK123.out 5).trans rfl
                                              have hfz113_0 := blk_frozen BK123.out 0
                                              have hfz113_1 := blk_frozen BK123.out 1
                                              have hfz113_2 := blk_frozen BK123.out 2
                                              have hfz113_3 := blk_frozen BK123.out 3
                                              have hfz113_4 := blk_frozen BK123.out 4
                                              have hfz113_5 := blk_frozen BK123.out 5
                                              go_wp2
                                              go_meet
                                              case rel => exact ⟨_, (false), (by first | rfl | (simp; done) | (simp [*]; done)), H', ⟨by have := HJ4.out; have := HJ31.out; have := HK3.out; have := HK4.out; have := HK5.out; first | omega | exact Nat.le_refl _⟩, ⟨by (with_reducible repeat (first | apply Kd.R_alloc | apply Kd.R_drewN | apply Kd.R_drew)); exact HO_127002.out⟩, ⟨by (with_reducible repeat (first | refine blk_drewN ?_ _ | refine blk_drew ?_ | refine blk_alloc ?_ _)); exact BK122.out⟩, ⟨by (with_reducible repeat (first | refine blk_drewN ?_ _ | refine blk_drew ?_ | refine blk_alloc ?_ _)); exact BK123.out⟩, ⟨by (with_reducible repeat (first | refine blk_drewN ?_ _ | refine blk_drew ?_ | refine blk_alloc ?_ _)); exact BK124.out⟩, ⟨by (with_reducible repeat (first | refine blk_drewN ?_ _ | refine blk_drew ?_ | refine blk_alloc ?_ _)); exact BK126.out⟩, ⟨by repeat (first | (with_reducible first | exact HB.out | apply below_alloc | apply pw_below_drewN | apply below_drew1 | refine below_set ?_ GE122.out | refine below_set ?_ GE123.out | refine below_set ?_ GE124.out | refine below_set ?_ GE126.out) | exact HB.out)⟩⟩
                                          case rest => as_aux_lemma =>
                                            clear HC104
                                            try clear c1
                                            try clear c2
                                            try clear p2
                                            try clear c3
                                            try clear c4
                                            try clear c4b0
                                            try clear c4b1
                                            try clear c5
                                            try clear c6
                                            try clear p6
                                            try clear c7
                                            try clear c8
                                            try clear c9
                                            try clear c10
                                            try clear c11
                                            try clear c13
                                            try clear c13b0
                                            try clear c14
                                            try clear c15
                                            try clear c17
                                            try clear c17b0
                                            try clear c18
                                            try clear c19
                                            try clear c21
                                            try clear c21b0
                                            try clear c22
                                            try clear c23
                                            try clear c25
                                            try clear c26
                                            try clear c28
                                            try clear c29
                                            try clear c30
                                            try clear c33
                                            try clear c33b0
                                            try clear c34
                                            try clear c35
                                            try clear c37
                                            try clear c39
                                            try clear c39b0
                                            try clear c40
                                            try clear c41
                                            try clear c43
                                            try clear c45
                                            try clear c45b0
                                            try clear c46
                                            try clear c47
                                            try clear c49
                                            try clear c51
                                            try clear c52
                                            try clear c54
                                            try clear c56
                                            try clear c57
                                            try clear c58
                                            try clear c60
                                            try clear c60b0
                                            try clear c61
                                            try clear c62
                                            try clear c64
                                            try clear p64
                                            try clear c66
                                            try clear c66b0
                                            try clear c67
                                            try clear c68
                                            try clear c70
                                            try clear c72
                                            try clear c72b0
                                            try clear c73
                                            try clear c74
                                            try clear c76
                                            try clear c78
                                            try clear c78b0
                                            try clear c79
                                            try clear c80
                                            try clear c82
                                            try clear c84
                                            try clear c85
                                            try clear c88
                                            try clear c89
                                            try clear c90
                                            try clear c93
                                            try clear c93b0
                                            try clear c94
                                            try clear c95
                                            try clear c96
                                            try clear c98
                                            try clear c98b0
                                            try clear c99
                                            try clear c99b0
                                            try clear c99b1
                                            try clear c100
                                            try clear c101
                                            try clear c102
                                            try clear c105
                                            try clear c105b0
                                            try clear c106
                                            try clear c107
                                            try clear c108
                                            try clear c110
                                            try clear c111
                                            try clear c112
                                            try clear hcz103_0
                                            try clear hcz103_1
                                            try clear hcz103_2
                                            try clear hcz103_3
                                            try clear hcz103_4
                                            try clear hcz103_5
                                            try clear hcz109_0
                                            try clear hcz109_1
                                            try clear hcz109_2
                                            try clear hcz109_3
                                            try clear hcz109_4
                                            try clear hcz109_5
                                            try clear hcz113_0
                                            try clear hcz113_1
                                            try clear hcz113_2
                                            try clear hcz113_3
                                            try clear hcz113_4
                                            try clear hcz113_5
                                            try clear hcz11_0
                                            try clear hcz11_1
                                            try clear hcz11_2
                                            try clear hcz16_0
                                            try clear hcz16_1
                                            try clear hcz16_2
                                            try clear hcz16_3
                                            try clear hcz16_4
                                            try clear hcz16_5
                                            try clear hcz20_0
                                            try clear hcz20_1
                                            try clear hcz20_2
                                            try clear hcz20_3
                                            try clear hcz20_4
                                            try clear hcz20_5
                                            try clear hcz24_0
                                            try clear hcz24_1
                                            try clear hcz24_2
                                            try clear hcz24_3
                                            try clear hcz24_4
                                            try clear hcz24_5
                                            try clear hcz27_0
                                            try clear hcz27_1
                                            try clear hcz27_2
                                            try clear hcz27_3
                                            try clear hcz27_4
                                            try clear hcz27_5
                                            try clear hcz31_0
                                            try clear hcz31_1
                                            try clear hcz31_2
                                            try clear hcz36_0
                                            try clear hcz36_1
                                            try clear hcz36_2
                                            try clear hcz36_3
                                            try clear hcz36_4
                                            try clear hcz36_5
                                            try clear hcz38_0
                                            try clear hcz38_1
                                            try clear hcz38_2
                                            try clear hcz42_0
                                            try clear hcz42_1
                                            try clear hcz42_2
                                            try clear hcz42_3
                                            try clear hcz42_4
                                            try clear hcz42_5
                                            try clear hcz44_0
                                            try clear hcz44_1
                                            try clear hcz44_2
                                            try clear hcz48_0
                                            try clear hcz48_1
                                            try clear hcz48_2
                                            try clear hcz48_3
                                            try clear hcz48_4
                                            try clear hcz48_5
                                            try clear hcz50_0
                                            try clear hcz50_1
                                            try clear hcz50_2
                                            try clear hcz53_0
                                            try clear hcz53_1
                                            try clear hcz53_2
                                            try clear hcz53_3
                                            try clear hcz53_4
                                            try clear hcz53_5
                                            try clear hcz55_0
                                            try clear hcz55_1
                                            try clear hcz55_2
                                            try clear hcz59_0
                                            try clear hcz59_1
                                            try clear hcz59_2
                                            try clear hcz63_0
                                            try clear hcz63_1
                                            try clear hcz63_2
                                            try clear hcz63_3
                                            try clear hcz63_4
                                            try clear hcz63_5
                                            try clear hcz65_0
                                            try clear hcz65_1
                                            try clear hcz65_2
                                            try clear hcz69_0
                                            try clear hcz69_1
                                            try clear hcz69_2
                                            try clear hcz69_3
                                            try clear hcz69_4
                                            try clear hcz69_5
                                            try clear hcz71_0
                                            try clear hcz71_1
                                            try clear hcz71_2
                                            try clear hcz75_0
                                            try clear hcz75_1
                                            try clear hcz75_2
                                            try clear hcz75_3
                                            try clear hcz75_4
                                            try clear hcz75_5
                                            try clear hcz77_0
                                            try clear hcz77_1
                                            try clear hcz77_2
                                            try clear hcz81_0
                                            try clear hcz81_1
                                            try clear hcz81_2
                                            try clear hcz81_3
                                            try clear hcz81_4
                                            try clear hcz81_5
                                            try clear hcz83_0
                                            try clear hcz83_1
                                            try clear hcz83_2
                                            try clear hcz86_0
                                            try clear hcz86_1
                                            try clear hcz86_2
                                            try clear hcz86_3
                                            try clear hcz86_4
                                            try clear hcz86_5
                                            try clear hcz91_0
                                            try clear hcz91_1
                                            try clear hcz91_2
                                            try clear hcz92_0
                                            try clear hcz92_1
                                            try clear hcz92_2
                                            try clear hcz92_3
                                            try clear hcz92_4
                                            try clear hcz92_5
                                            try clear hcz97_0
                                            try clear hcz97_1
                                            try clear hcz97_2
                                            try clear hcz97_3
                                            try clear hcz97_4
                                            try clear hcz97_5
                                            try clear hfz103_0
                                            try clear hfz103_1
                                            try clear hfz103_2
                                            try clear hfz103_3
                                            try clear hfz103_4
                                            try clear hfz103_5
                                            try clear hfz109_0
                                            try clear hfz109_1
                                            try clear hfz109_2
                                            try clear hfz109_3
                                            try clear hfz109_4
                                            try clear hfz109_5
                                            try clear hfz113_0
                                            try clear hfz113_1
                                            try clear hfz113_2
                                            try clear hfz113_3
                                            try clear hfz113_4
                                            try clear hfz113_5
                                            try clear hfz11_0
                                            try clear hfz11_1
                                            try clear hfz11_2
                                            try clear hfz16_0
                                            try clear hfz16_1
                                            try clear hfz16_2
                                            try clear hfz16_3
                                            try clear hfz16_4
                                            try clear hfz16_5
                                            try clear hfz20_0
                                            try clear hfz20_1
                                            try clear hfz20_2
                                            try clear hfz20_3
                                            try clear hfz20_4
                                            try clear hfz20_5
                                            try clear hfz24_0
                                            try clear hfz24_1
                                            try clear hfz24_2
                                            try clear hfz24_3
                                            try clear hfz24_4
                                            try clear hfz24_5
                                            try clear hfz27_0
                                            try clear hfz27_1
                                            try clear hfz27_2
                                            try clear hfz27_3
                                            try clear hfz27_4
                                            try clear hfz27_5
                                            try clear hfz31_0
                                            try clear hfz31_1
                                            try clear hfz31_2
                                            try clear hfz36_0
                                            try clear hfz36_1
                                            try clear hfz36_2
                                            try clear hfz36_3
                                            try clear hfz36_4
                                            try clear hfz36_5
                                            try clear hfz38_0
                                            try clear hfz38_1
                                            try clear hfz38_2
                                            try clear hfz42_0
                                            try clear hfz42_1
                                            try clear hfz42_2
                                            try clear hfz42_3
                                            try clear hfz42_4
                                            try clear hfz42_5
                                            try clear hfz44_0
                                            try clear hfz44_1
                                            try clear hfz44_2
                                            try clear hfz48_0
                                            try clear hfz48_1
                                            try clear hfz48_2
                                            try clear hfz48_3
                                            try clear hfz48_4
                                            try clear hfz48_5
                                            try clear hfz50_0
                                            try clear hfz50_1
                                            try clear hfz50_2
                                            try clear hfz53_0
                                            try clear hfz53_1
                                            try clear hfz53_2
                                            try clear hfz53_3
                                            try clear hfz53_4
                                            try clear hfz53_5
                                            try clear hfz55_0
                                            try clear hfz55_1
                                            try clear hfz55_2
                                            try clear hfz59_0
                                            try clear hfz59_1
                                            try clear hfz59_2
                                            try clear hfz63_0
                                            try clear hfz63_1
                                            try clear hfz63_2
                                            try clear hfz63_3
                                            try clear hfz63_4
                                            try clear hfz63_5
                                            try clear hfz65_0
                                            try clear hfz65_1
                                            try clear hfz65_2
                                            try clear hfz69_0
                                            try clear hfz69_1
                                            try clear hfz69_2
                                            try clear hfz69_3
                                            try clear hfz69_4
                                            try clear hfz69_5
                                            try clear hfz71_0
                                            try clear hfz71_1
                                            try clear hfz71_2
                                            try clear hfz75_0
                                            try clear hfz75_1
                                            try clear hfz75_2
                                            try clear hfz75_3
                                            try clear hfz75_4
                                            try clear hfz75_5
                                            try clear hfz77_0
                                            try clear hfz77_1
                                            try clear hfz77_2
                                            try clear hfz81_0
                                            try clear hfz81_1
                                            try clear hfz81_2
                                            try clear hfz81_3
                                            try clear hfz81_4
                                            try clear hfz81_5
                                            try clear hfz83_0
                                            try clear hfz83_1
                                            try clear hfz83_2
                                            try clear hfz86_0
                                            try clear hfz86_1
                                            try clear hfz86_2
                                            try clear hfz86_3
                                            try clear hfz86_4
                                            try clear hfz86_5
                                            try clear hfz91_0
                                            try clear hfz91_1
                                            try clear hfz91_2
                                            try clear hfz92_0
                                            try clear hfz92_1
                                            try clear hfz92_2
                                            try clear hfz92_3
                                            try clear hfz92_4
                                            try clear hfz92_5
                                            try clear hfz97_0
                                            try clear hfz97_1
                                            try clear hfz97_2
                                            try clear hfz97_3
                                            try clear hfz97_4
                                            try clear hfz97_5
                                            try clear p2
                                            try clear p6
                                            try clear p64
                                            obtain ⟨kq, x138_103, rfl, HA, HJ103, HO_127002, BK122, BK123, BK124, BK126, HB⟩ := hcut
                                            cases kq with
                                            | zero => exact absurd HA.out (by simp [asset_Render.j5])
                                            | succ kj103 =>
                                              have H := HA.out
                                              clear HA
                                              simp only [asset_Render.j5] at H
                                              by_cases c114 : x138_103 = true
                                              · subst c114
                                                have H1 : ((asset_overlap.f (wrap64 (x12_5 * a1_5)) (wrap64 ((wrap64 (x12_5 + 1)) * a1_5)) (wrap64 (x108_3 * a1_3)) (wrap64 ((wrap64 (x108_3 + 1)) * a1_3))).bind fun t130 => (if a1_4 = 0 then (none) else (asset_Render.l3 kj103 (wrap64 (a1_2 * a1_3)) x108_3 x113_4 x11_5 x12_5 t130 (wrap64 (Int.tdiv (wrap64 (x113_4 * a1_2)) a1_4)) a1_5 x108_3 a1_4 x113_4 a0_0 a0_1 l0_2 a1_0 a1_1 a1_2 a1_3 a1_4 a1_5 a1_4 a1_5 x127002_4))) = some (r1, r2, r3, r4) := by rw [if_pos rfl] at H; exact H
                                                clear H
                                                have H := H1
                                                clear H1
                                                replace H := Option.bind_eq_some_iff.mp H
                                                obtain ⟨t130, A1150, H⟩ := H
                                                replace H : (if a1_4 = 0 then (none) else (asset_Render.l3 kj103 (wrap64 (a1_2 * a1_3)) x108_3 x113_4 x11_5 x12_5 t130 (wrap64 (Int.tdiv (wrap64 (x113_4 * a1_2)) a1_4)) a1_5 x108_3 a1_4 x113_4 a0_0 a0_1 l0_2 a1_0 a1_1 a1_2 a1_3 a1_4 a1_5 a1_4 a1_5 x127002_4)) = some (r1, r2, r3, r4) := H
                                                have A115 := Aside0.mk A1150
                                                clear A1150
                                                by_cases c116 : a1_4 = 0
                                                · rw [if_pos c116] at H
                                                  exact absurd H (by simp)
                                                · rw [if_neg c116] at H
                                                  have c116b0 : (a1_4 == 0) = false := beq_eq_false_iff_ne.mpr c116
                                                  have c116b1 : (a1_4 != 0) = true := bne_iff_ne.mpr c116
                                                  have H' := Aside0.mk H
                                                  clear H
                                                  have hnb117 := NB123_122.out
                                                  have hnc117 := NB122_123.out
                                                  have hnb118 := NB123_124.out
                                                  have hnc118 := NB124_123.out
                                                  have hnb119 := NB123_126.out
                                                  have hnc119 := NB126_123.out
                                                  have hcz120_0 : wc.cell? ⟨gb123, 0, none⟩ = some (.int .i64 a1_0) := (blk_cell BK123.out 0).trans rfl
                                                  have hcz120_1 : wc.cell? ⟨gb123, 1, none⟩ = some (.int .i64 a1_1) := (blk_cell BK123.out 1).trans rfl
                                                  have hcz120_2 : wc.cell? ⟨gb123, 2, none⟩ = some (.int .i64 a1_2) := (blk_cell BK123.out 2).trans rfl
                                                  have hcz120_3 : wc.cell? ⟨gb123, 3, none⟩ = some (.int .i64 a1_3) := (blk_cell BK123.out 3).trans rfl
                                                  have hcz120_4 : wc.cell? ⟨gb123, 4, none⟩ = some (.int .i64 a1_4) := (blk_cell BK123.out 4).trans rfl
                                                  have hcz120_5 : wc.cell? ⟨gb123, 5, none⟩ = some (.int .i64 a1_5) := (blk_cell BK123.out 5).trans rfl
                                                  have hfz120_0 := blk_frozen BK123.out 0
                                                  have hfz120_1 := blk_frozen BK123.out 1
                                                  have hfz120_2 := blk_frozen BK123.out 2
                                                  have hfz120_3 := blk_frozen BK123.out 3
                                                  have hfz120_4 := blk_frozen BK123.out 4
                                                  have hfz120_5 := blk_frozen BK123.out 5
                                                  go_wp2_with (first | ((with_reducible refine gate_callee (f := 25) rfl ?_); refine goesL_ (some 159) rfl rfl Try.func25 (by kernel_rfl) rfl #[.int .i64 (wrap64 (x12_5 * a1_5)), .int .i64 (wrap64 ((wrap64 (x12_5 + 1)) * a1_5)), .int .i64 (wrap64 (x108_3 * a1_3)), .int .i64 (wrap64 ((wrap64 (x108_3 + 1)) * a1_3))] rfl (by (try simp only [List.map_toArray, List.map_cons, List.map_nil]); first | done | rfl | (simp only [List.length_drop, List.length_take]; rfl)) ?_; (with_reducible refine (asset_overlap.calls (wrap64 (x12_5 * a1_5)) (wrap64 ((wrap64 (x12_5 + 1)) * a1_5)) (wrap64 (x108_3 * a1_3)) (wrap64 ((wrap64 (x108_3 + 1)) * a1_3)) t130 _ A115.out).mono ?_); rintro e w121 ⟨rfl, hb⟩; refine ⟨_, rfl, ?_⟩; have n0_ := Aside0.mk (Kd.R_below (by (with_reducible repeat (first | apply Kd.R_alloc | apply Kd.R_drewN | apply Kd.R_drew)); exact HO_127002.out) hb); have n1_ := Aside0.mk (blk_below (g := gb122) (o := .cells #[.int .i64 a0_0, .int .i64 a0_1, .slice A0_2 l0_2.length c0_2] 29 (0, 0)) (by (with_reducible repeat (first | refine blk_drewN ?_ _ | refine blk_drew ?_ | refine blk_alloc ?_ _)); exact BK122.out) hb); have n2_ := Aside0.mk (blk_below (g := gb123) (o := .cells #[.int .i64 a1_0, .int .i64 a1_1, .int .i64 a1_2, .int .i64 a1_3, .int .i64 a1_4, .int .i64 a1_5] 33 (0, 0)) (by (with_reducible repeat (first | refine blk_drewN ?_ _ | refine blk_drew ?_ | refine blk_alloc ?_ _)); exact BK123.out) hb); have n3_ := Aside0.mk (blk_below (g := gb124) (o := .cells #[.int .i64 0, .int .i64 0, .slice none 0 0] 29 (0, 0)) (by (with_reducible repeat (first | refine blk_drewN ?_ _ | refine blk_drew ?_ | refine blk_alloc ?_ _)); exact BK124.out) hb); have n4_ := Aside0.mk (blk_below (g := gb126) (o := .cells #[.int .i64 a1_4, .int .i64 a1_5, u127002] 29 (0, 0)) (by (with_reducible repeat (first | refine blk_drewN ?_ _ | refine blk_drew ?_ | refine blk_alloc ?_ _)); exact BK126.out) hb); have n5_ := Aside0.mk (below_step (by repeat (first | (with_reducible first | exact HB.out | apply below_alloc | apply pw_below_drewN | apply below_drew1 | refine below_set ?_ GE122.out | refine below_set ?_ GE123.out | refine below_set ?_ GE124.out | refine below_set ?_ GE126.out) | exact HB.out)) hb); clear HO_127002; clear BK122; clear BK123; clear BK124; clear BK126; clear HB; have HO_127002 := n0_; have BK122 := n1_; have BK123 := n2_; have BK124 := n3_; have BK126 := n4_; have HB := n5_; clear n0_ n1_ n2_ n3_ n4_ n5_; (try clear hb); (try clear hb2); (try clear hk); (try clear hi); have hcz122_0 : w121.cell? ⟨gb123, 0, none⟩ = some (.int .i64 a1_0) := (blk_cell BK123.out 0).trans rfl; have hcz122_1 : w121.cell? ⟨gb123, 1, none⟩ = some (.int .i64 a1_1) := (blk_cell BK123.out 1).trans rfl; have hcz122_2 : w121.cell? ⟨gb123, 2, none⟩ = some (.int .i64 a1_2) := (blk_cell BK123.out 2).trans rfl; have hcz122_3 : w121.cell? ⟨gb123, 3, none⟩ = some (.int .i64 a1_3) := (blk_cell BK123.out 3).trans rfl; have hcz122_4 : w121.cell? ⟨gb123, 4, none⟩ = some (.int .i64 a1_4) := (blk_cell BK123.out 4).trans rfl; have hcz122_5 : w121.cell? ⟨gb123, 5, none⟩ = some (.int .i64 a1_5) := (blk_cell BK123.out 5).trans rfl; have hfz122_0 := blk_frozen BK123.out 0; have hfz122_1 := blk_frozen BK123.out 1; have hfz122_2 := blk_frozen BK123.out 2; have hfz122_3 := blk_frozen BK123.out 3; have hfz122_4 := blk_frozen BK123.out 4; have hfz122_5 := blk_frozen BK123.out 5))
                                                  go_loopg [11, 14] kj103 (fun kq v11 v14 w' => ∃ (x11_7 : Int) (x14_7 : Int), v11 = .int .i64 x11_7 ∧ v14 = .int .i64 x14_7 ∧ Aside0 (asset_Render.l3 kq (wrap64 (a1_2 * a1_3)) x108_3 x113_4 x11_7 x12_5 t130 x14_7 a1_5 x108_3 a1_4 x113_4 a0_0 a0_1 l0_2 a1_0 a1_1 a1_2 a1_3 a1_4 a1_5 a1_4 a1_5 x127002_4 = some (r1, r2, r3, r4)) ∧ Aside0 (kq ≤ kj103) ∧ Aside0 (Kd.R (Kd.int .i64) 3 w' w.heap.size (fun _ => True) u127002 x127002_4) ∧ Aside0 (w'.heap[gb122]? = some (.cells #[.int .i64 a0_0, .int .i64 a0_1, (.slice A0_2 l0_2.length c0_2)] 29 (0, 0))) ∧ Aside0 (w'.heap[gb123]? = some (.cells #[.int .i64 a1_0, .int .i64 a1_1, .int .i64 a1_2, .int .i64 a1_3, .int .i64 a1_4, .int .i64 a1_5] 33 (0, 0))) ∧ Aside0 (w'.heap[gb124]? = some (.cells #[.int .i64 0, .int .i64 0, (.slice none 0 0)] 29 (0, 0))) ∧ Aside0 (w'.heap[gb126]? = some (.cells #[.int .i64 a1_4, .int .i64 a1_5, u127002] 29 (0, 0))) ∧ Aside0 (Below w.heap.size w w'))
                                                  case atStart => exact ⟨(x11_5), (wrap64 (Int.tdiv (wrap64 (x113_4 * a1_2)) a1_4)), (by first | rfl | (simp; done) | (simp [*]; done)), (by first | rfl | (simp; done) | (simp [*]; done)), H', ⟨Nat.le_refl _⟩, ⟨by (with_reducible repeat (first | apply Kd.R_alloc | apply Kd.R_drewN | apply Kd.R_drew)); exact HO_127002.out⟩, ⟨by (with_reducible repeat (first | refine blk_drewN ?_ _ | refine blk_drew ?_ | refine blk_alloc ?_ _)); exact BK122.out⟩, ⟨by (with_reducible repeat (first | refine blk_drewN ?_ _ | refine blk_drew ?_ | refine blk_alloc ?_ _)); exact BK123.out⟩, ⟨by (with_reducible repeat (first | refine blk_drewN ?_ _ | refine blk_drew ?_ | refine blk_alloc ?_ _)); exact BK124.out⟩, ⟨by (with_reducible repeat (first | refine blk_drewN ?_ _ | refine blk_drew ?_ | refine blk_alloc ?_ _)); exact BK126.out⟩, ⟨by repeat (first | (with_reducible first | exact HB.out | apply below_alloc | apply pw_below_drewN | apply below_drew1 | refine below_set ?_ GE122.out | refine below_set ?_ GE123.out | refine below_set ?_ GE124.out | refine below_set ?_ GE126.out) | exact HB.out)⟩⟩
                                                  case round => as_aux_lemma =>
                                                    clear H'
                                                    try clear c1
                                                    try clear c2
                                                    try clear p2
                                                    try clear c3
                                                    try clear c4
                                                    try clear c4b0
                                                    try clear c4b1
                                                    try clear c5
                                                    try clear c6
                                                    try clear p6
                                                    try clear c7
                                                    try clear c8
                                                    try clear c9
                                                    try clear c10
                                                    try clear c11
                                                    try clear c13
                                                    try clear c13b0
                                                    try clear c14
                                                    try clear c15
                                                    try clear c17
                                                    try clear c17b0
                                                    try clear c18
                                                    try clear c19
                                                    try clear c21
                                                    try clear c21b0
                                                    try clear c22
                                                    try clear c23
                                                    try clear c25
                                                    try clear c26
                                                    try clear c28
                                                    try clear c29
                                                    try clear c30
                                                    try clear c33
                                                    try clear c33b0
                                                    try clear c34
                                                    try clear c35
                                                    try clear c37
                                                    try clear c39
                                                    try clear c39b0
                                                    try clear c40
                                                    try clear c41
                                                    try clear c43
                                                    try clear c45
                                                    try clear c45b0
                                                    try clear c46
                                                    try clear c47
                                                    try clear c49
                                                    try clear c51
                                                    try clear c52
                                                    try clear c54
                                                    try clear c56
                                                    try clear c57
                                                    try clear c58
                                                    try clear c60
                                                    try clear c60b0
                                                    try clear c61
                                                    try clear c62
                                                    try clear c64
                                                    try clear p64
                                                    try clear c66
                                                    try clear c66b0
                                                    try clear c67
                                                    try clear c68
                                                    try clear c70
                                                    try clear c72
                                                    try clear c72b0
                                                    try clear c73
                                                    try clear c74
                                                    try clear c76
                                                    try clear c78
                                                    try clear c78b0
                                                    try clear c79
                                                    try clear c80
                                                    try clear c82
                                                    try clear c84
                                                    try clear c85
                                                    try clear c88
                                                    try clear c89
                                                    try clear c90
                                                    try clear c93
                                                    try clear c93b0
                                                    try clear c94
                                                    try clear c95
                                                    try clear c96
                                                    try clear c98
                                                    try clear c98b0
                                                    try clear c99
                                                    try clear c99b0
                                                    try clear c99b1
                                                    try clear c100
                                                    try clear c101
                                                    try clear c102
                                                    try clear c105
                                                    try clear c105b0
                                                    try clear c106
                                                    try clear c107
                                                    try clear c108
                                                    try clear c110
                                                    try clear c111
                                                    try clear c112
                                                    try clear c114
                                                    try clear c116
                                                    try clear c116b0
                                                    try clear c116b1
                                                    try clear c117
                                                    try clear c118
                                                    try clear c119
                                                    try clear hcz103_0
                                                    try clear hcz103_1
                                                    try clear hcz103_2
                                                    try clear hcz103_3
                                                    try clear hcz103_4
                                                    try clear hcz103_5
                                                    try clear hcz109_0
                                                    try clear hcz109_1
                                                    try clear hcz109_2
                                                    try clear hcz109_3
                                                    try clear hcz109_4
                                                    try clear hcz109_5
                                                    try clear hcz113_0
                                                    try clear hcz113_1
                                                    try clear hcz113_2
                                                    try clear hcz113_3
                                                    try clear hcz113_4
                                                    try clear hcz113_5
                                                    try clear hcz11_0
                                                    try clear hcz11_1
                                                    try clear hcz11_2
                                                    try clear hcz120_0
                                                    try clear hcz120_1
                                                    try clear hcz120_2
                                                    try clear hcz120_3
                                                    try clear hcz120_4
                                                    try clear hcz120_5
                                                    try clear hcz122_0
                                                    try clear hcz122_1
                                                    try clear hcz122_2
                                                    try clear hcz122_3
                                                    try clear hcz122_4
                                                    try clear hcz122_5
                                                    try clear hcz16_0
                                                    try clear hcz16_1
                                                    try clear hcz16_2
                                                    try clear hcz16_3
                                                    try clear hcz16_4
                                                    try clear hcz16_5
                                                    try clear hcz20_0
                                                    try clear hcz20_1
                                                    try clear hcz20_2
                                                    try clear hcz20_3
                                                    try clear hcz20_4
                                                    try clear hcz20_5
                                                    try clear hcz24_0
                                                    try clear hcz24_1
                                                    try clear hcz24_2
                                                    try clear hcz24_3
                                                    try clear hcz24_4
                                                    try clear hcz24_5
                                                    try clear hcz27_0
                                                    try clear hcz27_1
                                                    try clear hcz27_2
                                                    try clear hcz27_3
                                                    try clear hcz27_4
                                                    try clear hcz27_5
                                                    try clear hcz31_0
                                                    try clear hcz31_1
                                                    try clear hcz31_2
                                                    try clear hcz36_0
                                                    try clear hcz36_1
                                                    try clear hcz36_2
                                                    try clear hcz36_3
                                                    try clear hcz36_4
                                                    try clear hcz36_5
                                                    try clear hcz38_0
                                                    try clear hcz38_1
                                                    try clear hcz38_2
                                                    try clear hcz42_0
                                                    try clear hcz42_1
                                                    try clear hcz42_2
                                                    try clear hcz42_3
                                                    try clear hcz42_4
                                                    try clear hcz42_5
                                                    try clear hcz44_0
                                                    try clear hcz44_1
                                                    try clear hcz44_2
                                                    try clear hcz48_0
                                                    try clear hcz48_1
                                                    try clear hcz48_2
                                                    try clear hcz48_3
                                                    try clear hcz48_4
                                                    try clear hcz48_5
                                                    try clear hcz50_0
                                                    try clear hcz50_1
                                                    try clear hcz50_2
                                                    try clear hcz53_0
                                                    try clear hcz53_1
                                                    try clear hcz53_2
                                                    try clear hcz53_3
                                                    try clear hcz53_4
                                                    try clear hcz53_5
                                                    try clear hcz55_0
                                                    try clear hcz55_1
                                                    try clear hcz55_2
                                                    try clear hcz59_0
                                                    try clear hcz59_1
                                                    try clear hcz59_2
                                                    try clear hcz63_0
                                                    try clear hcz63_1
                                                    try clear hcz63_2
                                                    try clear hcz63_3
                                                    try clear hcz63_4
                                                    try clear hcz63_5
                                                    try clear hcz65_0
                                                    try clear hcz65_1
                                                    try clear hcz65_2
                                                    try clear hcz69_0
                                                    try clear hcz69_1
                                                    try clear hcz69_2
                                                    try clear hcz69_3
                                                    try clear hcz69_4
                                                    try clear hcz69_5
                                                    try clear hcz71_0
                                                    try clear hcz71_1
                                                    try clear hcz71_2
                                                    try clear hcz75_0
                                                    try clear hcz75_1
                                                    try clear hcz75_2
                                                    try clear hcz75_3
                                                    try clear hcz75_4
                                                    try clear hcz75_5
                                                    try clear hcz77_0
                                                    try clear hcz77_1
                                                    try clear hcz77_2
                                                    try clear hcz81_0
                                                    try clear hcz81_1
                                                    try clear hcz81_2
                                                    try clear hcz81_3
                                                    try clear hcz81_4
                                                    try clear hcz81_5
                                                    try clear hcz83_0
                                                    try clear hcz83_1
                                                    try clear hcz83_2
                                                    try clear hcz86_0
                                                    try clear hcz86_1
                                                    try clear hcz86_2
                                                    try clear hcz86_3
                                                    try clear hcz86_4
                                                    try clear hcz86_5
                                                    try clear hcz91_0
                                                    try clear hcz91_1
                                                    try clear hcz91_2
                                                    try clear hcz92_0
                                                    try clear hcz92_1
                                                    try clear hcz92_2
                                                    try clear hcz92_3
                                                    try clear hcz92_4
                                                    try clear hcz92_5
                                                    try clear hcz97_0
                                                    try clear hcz97_1
                                                    try clear hcz97_2
                                                    try clear hcz97_3
                                                    try clear hcz97_4
                                                    try clear hcz97_5
                                                    try clear hfz103_0
                                                    try clear hfz103_1
                                                    try clear hfz103_2
                                                    try clear hfz103_3
                                                    try clear hfz103_4
                                                    try clear hfz103_5
                                                    try clear hfz109_0
                                                    try clear hfz109_1
                                                    try clear hfz109_2
                                                    try clear hfz109_3
                                                    try clear hfz109_4
                                                    try clear hfz109_5
                                                    try clear hfz113_0
                                                    try clear hfz113_1
                                                    try clear hfz113_2
                                                    try clear hfz113_3
                                                    try clear hfz113_4
                                                    try clear hfz113_5
                                                    try clear hfz11_0
                                                    try clear hfz11_1
                                                    try clear hfz11_2
                                                    try clear hfz120_0
                                                    try clear hfz120_1
                                                    try clear hfz120_2
                                                    try clear hfz120_3
                                                    try clear hfz120_4
                                                    try clear hfz120_5
                                                    try clear hfz122_0
                                                    try clear hfz122_1
                                                    try clear hfz122_2
                                                    try clear hfz122_3
                                                    try clear hfz122_4
                                                    try clear hfz122_5
                                                    try clear hfz16_0
                                                    try clear hfz16_1
                                                    try clear hfz16_2
                                                    try clear hfz16_3
                                                    try clear hfz16_4
                                                    try clear hfz16_5
                                                    try clear hfz20_0
                                                    try clear hfz20_1
                                                    try clear hfz20_2
                                                    try clear hfz20_3
                                                    try clear hfz20_4
                                                    try clear hfz20_5
                                                    try clear hfz24_0
                                                    try clear hfz24_1
                                                    try clear hfz24_2
                                                    try clear hfz24_3
                                                    try clear hfz24_4
                                                    try clear hfz24_5
                                                    try clear hfz27_0
                                                    try clear hfz27_1
                                                    try clear hfz27_2
                                                    try clear hfz27_3
                                                    try clear hfz27_4
                                                    try clear hfz27_5
                                                    try clear hfz31_0
                                                    try clear hfz31_1
                                                    try clear hfz31_2
                                                    try clear hfz36_0
                                                    try clear hfz36_1
                                                    try clear hfz36_2
                                                    try clear hfz36_3
                                                    try clear hfz36_4
                                                    try clear hfz36_5
                                                    try clear hfz38_0
                                                    try clear hfz38_1
                                                    try clear hfz38_2
                                                    try clear hfz42_0
                                                    try clear hfz42_1
                                                    try clear hfz42_2
                                                    try clear hfz42_3
                                                    try clear hfz42_4
                                                    try clear hfz42_5
                                                    try clear hfz44_0
                                                    try clear hfz44_1
                                                    try clear hfz44_2
                                                    try clear hfz48_0
                                                    try clear hfz48_1
                                                    try clear hfz48_2
                                                    try clear hfz48_3
                                                    try clear hfz48_4
                                                    try clear hfz48_5
                                                    try clear hfz50_0
                                                    try clear hfz50_1
                                                    try clear hfz50_2
                                                    try clear hfz53_0
                                                    try clear hfz53_1
                                                    try clear hfz53_2
                                                    try clear hfz53_3
                                                    try clear hfz53_4
                                                    try clear hfz53_5
                                                    try clear hfz55_0
                                                    try clear hfz55_1
                                                    try clear hfz55_2
                                                    try clear hfz59_0
                                                    try clear hfz59_1
                                                    try clear hfz59_2
                                                    try clear hfz63_0
                                                    try clear hfz63_1
                                                    try clear hfz63_2
                                                    try clear hfz63_3
                                                    try clear hfz63_4
                                                    try clear hfz63_5
                                                    try clear hfz65_0
                                                    try clear hfz65_1
                                                    try clear hfz65_2
                                                    try clear hfz69_0
                                                    try clear hfz69_1
                                                    try clear hfz69_2
                                                    try clear hfz69_3
                                                    try clear hfz69_4
                                                    try clear hfz69_5
                                                    try clear hfz71_0
                                                    try clear hfz71_1
                                                    try clear hfz71_2
                                                    try clear hfz75_0
                                                    try clear hfz75_1
                                                    try clear hfz75_2
                                                    try clear hfz75_3
                                                    try clear hfz75_4
                                                    try clear hfz75_5
                                                    try clear hfz77_0
                                                    try clear hfz77_1
                                                    try clear hfz77_2
                                                    try clear hfz81_0
                                                    try clear hfz81_1
                                                    try clear hfz81_2
                                                    try clear hfz81_3
                                                    try clear hfz81_4
                                                    try clear hfz81_5
                                                    try clear hfz83_0
                                                    try clear hfz83_1
                                                    try clear hfz83_2
                                                    try clear hfz86_0
                                                    try clear hfz86_1
                                                    try clear hfz86_2
                                                    try clear hfz86_3
                                                    try clear hfz86_4
                                                    try clear hfz86_5
                                                    try clear hfz91_0
                                                    try clear hfz91_1
                                                    try clear hfz91_2
                                                    try clear hfz92_0
                                                    try clear hfz92_1
                                                    try clear hfz92_2
                                                    try clear hfz92_3
                                                    try clear hfz92_4
                                                    try clear hfz92_5
                                                    try clear hfz97_0
                                                    try clear hfz97_1
                                                    try clear hfz97_2
                                                    try clear hfz97_3
                                                    try clear hfz97_4
                                                    try clear hfz97_5
                                                    try clear p2
                                                    try clear p6
                                                    try clear p64
                                                    obtain ⟨x11_7, x14_7, rfl, rfl, HA, HK7, HO_127002, BK122, BK123, BK124, BK126, HB⟩ := hrel
                                                    cases gk with
                                                    | zero => exact absurd HA.out (by simp [asset_Render.l3])
                                                    | succ k7 =>
                                                      have H := HA.out
                                                      clear HA
                                                      simp only [asset_Render.l3] at H
                                                      by_cases c123 : x14_7 < a1_2
                                                      · rw [if_pos c123] at H
                                                        have c123b0 : decide (x14_7 < a1_2) = true := decide_eq_true c123
                                                        clear c123
                                                        by_cases c124 : (wrap64 (x14_7 * a1_4)) < (wrap64 ((wrap64 (x113_4 + 1)) * a1_2))
                                                        · rw [if_pos c124] at H
                                                          have c124b0 : decide ((wrap64 (x14_7 * a1_4)) < (wrap64 ((wrap64 (x113_4 + 1)) * a1_2))) = true := decide_eq_true c124
                                                          clear c124
                                                          replace H := Option.bind_eq_some_iff.mp H
                                                          obtain ⟨t131, A1250, H⟩ := H
                                                          replace H : (if 0 ≤ (wrap64 ((wrap64 ((wrap64 ((wrap64 (a1_1 + x12_5)) * a0_0)) + a1_0)) + x14_7)) then (if (wrap64 ((wrap64 ((wrap64 ((wrap64 (a1_1 + x12_5)) * a0_0)) + a1_0)) + x14_7)) < (l0_2.length : Int) then (asset_Render.l3 k7 (wrap64 (a1_2 * a1_3)) x108_3 x113_4 (wrap64 (x11_7 + (wrap64 ((wrap64 (t130 * t131)) * (rd l0_2 (wrap64 ((wrap64 ((wrap64 ((wrap64 (a1_1 + x12_5)) * a0_0)) + a1_0)) + x14_7))))))) x12_5 t130 (wrap64 (x14_7 + 1)) a1_5 x108_3 a1_4 x113_4 a0_0 a0_1 l0_2 a1_0 a1_1 a1_2 a1_3 a1_4 a1_5 a1_4 a1_5 x127002_4) else (none)) else (none)) = some (r1, r2, r3, r4) := H
                                                          have A125 := Aside0.mk A1250
                                                          clear A1250
                                                          obtain ⟨ji126, hji126⟩ : ∃ j_ : Int, (wrap64 ((wrap64 ((wrap64 ((wrap64 (a1_1 + x12_5)) * a0_0)) + a1_0)) + x14_7)) = j_ := ⟨_, rfl⟩
                                                          replace H : (if 0 ≤ (ji126) then (if (ji126) < (l0_2.length : Int) then (asset_Render.l3 k7 (wrap64 (a1_2 * a1_3)) x108_3 x113_4 (wrap64 (x11_7 + (wrap64 ((wrap64 (t130 * t131)) * (rd l0_2 (ji126)))))) x12_5 t130 (wrap64 (x14_7 + 1)) a1_5 x108_3 a1_4 x113_4 a0_0 a0_1 l0_2 a1_0 a1_1 a1_2 a1_3 a1_4 a1_5 a1_4 a1_5 x127002_4) else (none)) else (none)) = some (r1, r2, r3, r4) := by first | (rw [hji126] at H; exact H) | (simp only [hji126] at H ⊢; exact H)
                                                          (try rw [hji126] at A125)
                                                          have hji126w : (IntKind.i64.wrap ((wrap64 ((wrap64 ((wrap64 (a1_1 + x12_5)) * a0_0)) + a1_0)) + x14_7)) = ji126 := (i64_w _).trans hji126
                                                          by_cases c127 : 0 ≤ (ji126)
                                                          · rw [if_pos c127] at H
                                                            have c127b0 : decide (0 ≤ (ji126)) = true := decide_eq_true c127
                                                            clear c127
                                                            by_cases c128 : (ji126) < (l0_2.length : Int)
                                                            · rw [if_pos c128] at H
                                                              have c128b0 : decide ((ji126) < (l0_2.length : Int)) = true := decide_eq_true c128
                                                              clear c128
                                                              have H' := Aside0.mk H
                                                              clear H
                                                              have hnb129 := NB123_122.out
                                                              have hnc129 := NB122_123.out
                                                              have hnb130 := NB123_124.out
                                                              have hnc130 := NB124_123.out
                                                              have hnb131 := NB123_126.out
                                                              have hnc131 := NB126_123.out
                                                              have hcz132_0 : wr.cell? ⟨gb123, 0, none⟩ = some (.int .i64 a1_0) := (blk_cell BK123.out 0).trans rfl
                                                              have hcz132_1 : wr.cell? ⟨gb123, 1, none⟩ = some (.int .i64 a1_1) := (blk_cell BK123.out 1).trans rfl
                                                              have hcz132_2 : wr.cell? ⟨gb123, 2, none⟩ = some (.int .i64 a1_2) := (blk_cell BK123.out 2).trans rfl
                                                              have hcz132_3 : wr.cell? ⟨gb123, 3, none⟩ = some (.int .i64 a1_3) := (blk_cell BK123.out 3).trans rfl
                                                              have hcz132_4 : wr.cell? ⟨gb123, 4, none⟩ = some (.int .i64 a1_4) := (blk_cell BK123.out 4).trans rfl
                                                              have hcz132_5 : wr.cell? ⟨gb123, 5, none⟩ = some (.int .i64 a1_5) := (blk_cell BK123.out 5).trans rfl
                                                              have hfz132_0 := blk_frozen BK123.out 0
                                                              have hfz132_1 := blk_frozen BK123.out 1
                                                              have hfz132_2 := blk_frozen BK123.out 2
                                                              have hfz132_3 := blk_frozen BK123.out 3
                                                              have hfz132_4 := blk_frozen BK123.out 4
                                                              have hfz132_5 := blk_frozen BK123.out 5
                                                              go_wp2_with (first | ((with_reducible refine gate_callee (f := 25) rfl ?_); refine goesL_ (some 203) rfl rfl Try.func25 (by kernel_rfl) rfl #[.int .i64 (wrap64 (x14_7 * a1_4)), .int .i64 (wrap64 ((wrap64 (x14_7 + 1)) * a1_4)), .int .i64 (wrap64 (x113_4 * a1_2)), .int .i64 (wrap64 ((wrap64 (x113_4 + 1)) * a1_2))] rfl (by (try simp only [List.map_toArray, List.map_cons, List.map_nil]); first | done | rfl | (simp only [List.length_drop, List.length_take]; rfl)) ?_; (with_reducible refine (asset_overlap.calls (wrap64 (x14_7 * a1_4)) (wrap64 ((wrap64 (x14_7 + 1)) * a1_4)) (wrap64 (x113_4 * a1_2)) (wrap64 ((wrap64 (x113_4 + 1)) * a1_2)) t131 _ A125.out).mono ?_); rintro e w133 ⟨rfl, hb⟩; refine ⟨_, rfl, ?_⟩; have n0_ := Aside0.mk (Kd.R_below (by (with_reducible repeat (first | apply Kd.R_alloc | apply Kd.R_drewN | apply Kd.R_drew)); exact HO_127002.out) hb); have n1_ := Aside0.mk (blk_below (g := gb122) (o := .cells #[.int .i64 a0_0, .int .i64 a0_1, .slice A0_2 l0_2.length c0_2] 29 (0, 0)) (by (with_reducible repeat (first | refine blk_drewN ?_ _ | refine blk_drew ?_ | refine blk_alloc ?_ _)); exact BK122.out) hb); have n2_ := Aside0.mk (blk_below (g := gb123) (o := .cells #[.int .i64 a1_0, .int .i64 a1_1, .int .i64 a1_2, .int .i64 a1_3, .int .i64 a1_4, .int .i64 a1_5] 33 (0, 0)) (by (with_reducible repeat (first | refine blk_drewN ?_ _ | refine blk_drew ?_ | refine blk_alloc ?_ _)); exact BK123.out) hb); have n3_ := Aside0.mk (blk_below (g := gb124) (o := .cells #[.int .i64 0, .int .i64 0, .slice none 0 0] 29 (0, 0)) (by (with_reducible repeat (first | refine blk_drewN ?_ _ | refine blk_drew ?_ | refine blk_alloc ?_ _)); exact BK124.out) hb); have n4_ := Aside0.mk (blk_below (g := gb126) (o := .cells #[.int .i64 a1_4, .int .i64 a1_5, u127002] 29 (0, 0)) (by (with_reducible repeat (first | refine blk_drewN ?_ _ | refine blk_drew ?_ | refine blk_alloc ?_ _)); exact BK126.out) hb); have n5_ := Aside0.mk (below_step (by repeat (first | (with_reducible first | exact HB.out | apply below_alloc | apply pw_below_drewN | apply below_drew1 | refine below_set ?_ GE122.out | refine below_set ?_ GE123.out | refine below_set ?_ GE124.out | refine below_set ?_ GE126.out) | exact HB.out)) hb); clear HO_127002; clear BK122; clear BK123; clear BK124; clear BK126; clear HB; have HO_127002 := n0_; have BK122 := n1_; have BK123 := n2_; have BK124 := n3_; have BK126 := n4_; have HB := n5_; clear n0_ n1_ n2_ n3_ n4_ n5_; (try clear hb); (try clear hb2); (try clear hk); (try clear hi); have hnb134 := NB122_124.out; have hnc134 := NB124_122.out; have hnb135 := NB122_126.out; have hnc135 := NB126_122.out; have hcz136_0 : w133.cell? ⟨gb122, 0, none⟩ = some (.int .i64 a0_0) := (blk_cell BK122.out 0).trans rfl; have hcz136_1 : w133.cell? ⟨gb122, 1, none⟩ = some (.int .i64 a0_1) := (blk_cell BK122.out 1).trans rfl; have hcz136_2 : w133.cell? ⟨gb122, 2, none⟩ = some (.slice A0_2 l0_2.length c0_2) := (blk_cell BK122.out 2).trans rfl; have hfz136_0 := blk_frozen BK122.out 0; have hfz136_1 := blk_frozen BK122.out 1; have hfz136_2 := blk_frozen BK122.out 2; have hcz137_0 : w133.cell? ⟨gb123, 0, none⟩ = some (.int .i64 a1_0) := (blk_cell BK123.out 0).trans rfl; have hcz137_1 : w133.cell? ⟨gb123, 1, none⟩ = some (.int .i64 a1_1) := (blk_cell BK123.out 1).trans rfl; have hcz137_2 : w133.cell? ⟨gb123, 2, none⟩ = some (.int .i64 a1_2) := (blk_cell BK123.out 2).trans rfl; have hcz137_3 : w133.cell? ⟨gb123, 3, none⟩ = some (.int .i64 a1_3) := (blk_cell BK123.out 3).trans rfl; have hcz137_4 : w133.cell? ⟨gb123, 4, none⟩ = some (.int .i64 a1_4) := (blk_cell BK123.out 4).trans rfl; have hcz137_5 : w133.cell? ⟨gb123, 5, none⟩ = some (.int .i64 a1_5) := (blk_cell BK123.out 5).trans rfl; have hfz137_0 := blk_frozen BK123.out 0; have hfz137_1 := blk_frozen BK123.out 1; have hfz137_2 := blk_frozen BK123.out 2; have hfz137_3 := blk_frozen BK123.out 3; have hfz137_4 := blk_frozen BK123.out 4; have hfz137_5 := blk_frozen BK123.out 5; have p132 : 0 ≤ ((ji126) : Int) := of_decide_eq_true (by first | (with_reducible assumption) | assumption); have q132 : (ji126) < (l0_2.length : Int) := of_decide_eq_true (by first | (with_reducible assumption) | assumption); obtain ⟨ad132, e132, hx132_0⟩ := Kd.at_int HR0_2.out (ji126) p132 q132; cases e132; replace hx132_0 := (HB.out.cell (World.block_lt_of_cell? w _ hx132_0)).trans hx132_0; replace p132 := eq_true p132; replace q132 := eq_true q132))
                                                              go_roundg k7
                                                              case measure => have := HJ4.out; have := HJ31.out; have := HK3.out; have := HK4.out; have := HK5.out; have := HJ103.out; have := HK7.out; omega
                                                              case rel => exact ⟨(wrap64 (x11_7 + (wrap64 ((wrap64 (t130 * t131)) * (rd l0_2 (ji126)))))), (wrap64 (x14_7 + 1)), (by first | rfl | (simp; done) | (simp only [← hji126] <;> (first | rfl | simp)) | (simp [*]; done)), (by first | rfl | (simp; done) | (simp [*]; done)), H', ⟨by have := HJ4.out; have := HJ31.out; have := HK3.out; have := HK4.out; have := HK5.out; have := HJ103.out; have := HK7.out; omega⟩, ⟨by (with_reducible repeat (first | apply Kd.R_alloc | apply Kd.R_drewN | apply Kd.R_drew)); exact HO_127002.out⟩, ⟨by (with_reducible repeat (first | refine blk_drewN ?_ _ | refine blk_drew ?_ | refine blk_alloc ?_ _)); exact BK122.out⟩, ⟨by (with_reducible repeat (first | refine blk_drewN ?_ _ | refine blk_drew ?_ | refine blk_alloc ?_ _)); exact BK123.out⟩, ⟨by (with_reducible repeat (first | refine blk_drewN ?_ _ | refine blk_drew ?_ | refine blk_alloc ?_ _)); exact BK124.out⟩, ⟨by (with_reducible repeat (first | refine blk_drewN ?_ _ | refine blk_drew ?_ | refine blk_alloc ?_ _)); exact BK126.out⟩, ⟨by repeat (first | (with_reducible first | exact HB.out | apply below_alloc | apply pw_below_drewN | apply below_drew1 | refine below_set ?_ GE122.out | refine below_set ?_ GE123.out | refine below_set ?_ GE124.out | refine below_set ?_ GE126.out) | exact HB.out)⟩⟩
                                                            · rw [if_neg c128] at H
                                                              exact absurd H (by simp)
                                                          · rw [if_neg c127] at H
                                                            exact absurd H (by simp)
                                                        · rw [if_neg c124] at H
                                                          have c124b0 : decide ((wrap64 (x14_7 * a1_4)) < (wrap64 ((wrap64 (x113_4 + 1)) * a1_2))) = false := decide_eq_false c124
                                                          clear c124
                                                          have H' := Aside0.mk H
                                                          clear H
                                                          have hnb138 := NB123_122.out
                                                          have hnc138 := NB122_123.out
                                                          have hnb139 := NB123_124.out
                                                          have hnc139 := NB124_123.out
                                                          have hnb140 := NB123_126.out
                                                          have hnc140 := NB126_123.out
                                                          have hcz141_0 : wr.cell? ⟨gb123, 0, none⟩ = some (.int .i64 a1_0) := (blk_cell BK123.out 0).trans rfl
                                                          have hcz141_1 : wr.cell? ⟨gb123, 1, none⟩ = some (.int .i64 a1_1) := (blk_cell BK123.out 1).trans rfl
                                                          have hcz141_2 : wr.cell? ⟨gb123, 2, none⟩ = some (.int .i64 a1_2) := (blk_cell BK123.out 2).trans rfl
                                                          have hcz141_3 : wr.cell? ⟨gb123, 3, none⟩ = some (.int .i64 a1_3) := (blk_cell BK123.out 3).trans rfl
                                                          have hcz141_4 : wr.cell? ⟨gb123, 4, none⟩ = some (.int .i64 a1_4) := (blk_cell BK123.out 4).trans rfl
                                                          have hcz141_5 : wr.cell? ⟨gb123, 5, none⟩ = some (.int .i64 a1_5) := (blk_cell BK123.out 5).trans rfl
                                                          have hfz141_0 := blk_frozen BK123.out 0
                                                          have hfz141_1 := blk_frozen BK123.out 1
                                                          have hfz141_2 := blk_frozen BK123.out 2
                                                          have hfz141_3 := blk_frozen BK123.out 3
                                                          have hfz141_4 := blk_frozen BK123.out 4
                                                          have hfz141_5 := blk_frozen BK123.out 5
                                                          go_wp2
                                                          go_roundg k7
                                                          case measure => have := HJ4.out; have := HJ31.out; have := HK3.out; have := HK4.out; have := HK5.out; have := HJ103.out; have := HK7.out; omega
                                                          case rel => exact ⟨(x11_7), (wrap64 (x12_5 + 1)), (by first | rfl | (simp; done) | (simp [*]; done)), (by first | rfl | (simp; done) | (simp [*]; done)), H', ⟨by have := HJ4.out; have := HJ31.out; have := HK3.out; have := HK4.out; have := HK5.out; have := HJ103.out; have := HK7.out; omega⟩, ⟨by (with_reducible repeat (first | apply Kd.R_alloc | apply Kd.R_drewN | apply Kd.R_drew)); exact HO_127002.out⟩, ⟨by (with_reducible repeat (first | refine blk_drewN ?_ _ | refine blk_drew ?_ | refine blk_alloc ?_ _)); exact BK122.out⟩, ⟨by (with_reducible repeat (first | refine blk_drewN ?_ _ | refine blk_drew ?_ | refine blk_alloc ?_ _)); exact BK123.out⟩, ⟨by (with_reducible repeat (first | refine blk_drewN ?_ _ | refine blk_drew ?_ | refine blk_alloc ?_ _)); exact BK124.out⟩, ⟨by (with_reducible repeat (first | refine blk_drewN ?_ _ | refine blk_drew ?_ | refine blk_alloc ?_ _)); exact BK126.out⟩, ⟨by repeat (first | (with_reducible first | exact HB.out | apply below_alloc | apply pw_below_drewN | apply below_drew1 | refine below_set ?_ GE122.out | refine below_set ?_ GE123.out | refine below_set ?_ GE124.out | refine below_set ?_ GE126.out) | exact HB.out)⟩⟩
                                                      · rw [if_neg c123] at H
                                                        have c123b0 : decide (x14_7 < a1_2) = false := decide_eq_false c123
                                                        clear c123
                                                        have H' := Aside0.mk H
                                                        clear H
                                                        have hnb142 := NB123_122.out
                                                        have hnc142 := NB122_123.out
                                                        have hnb143 := NB123_124.out
                                                        have hnc143 := NB124_123.out
                                                        have hnb144 := NB123_126.out
                                                        have hnc144 := NB126_123.out
                                                        have hcz145_0 : wr.cell? ⟨gb123, 0, none⟩ = some (.int .i64 a1_0) := (blk_cell BK123.out 0).trans rfl
                                                        have hcz145_1 : wr.cell? ⟨gb123, 1, none⟩ = some (.int .i64 a1_1) := (blk_cell BK123.out 1).trans rfl
                                                        have hcz145_2 : wr.cell? ⟨gb123, 2, none⟩ = some (.int .i64 a1_2) := (blk_cell BK123.out 2).trans rfl
                                                        have hcz145_3 : wr.cell? ⟨gb123, 3, none⟩ = some (.int .i64 a1_3) := (blk_cell BK123.out 3).trans rfl
                                                        have hcz145_4 : wr.cell? ⟨gb123, 4, none⟩ = some (.int .i64 a1_4) := (blk_cell BK123.out 4).trans rfl
                                                        have hcz145_5 : wr.cell? ⟨gb123, 5, none⟩ = some (.int .i64 a1_5) := (blk_cell BK123.out 5).trans rfl
                                                        have hfz145_0 := blk_frozen BK123.out 0
                                                        have hfz145_1 := blk_frozen BK123.out 1
                                                        have hfz145_2 := blk_frozen BK123.out 2
                                                        have hfz145_3 := blk_frozen BK123.out 3
                                                        have hfz145_4 := blk_frozen BK123.out 4
                                                        have hfz145_5 := blk_frozen BK123.out 5
                                                        go_wp2
                                                        go_roundg k7
                                                        case measure => have := HJ4.out; have := HJ31.out; have := HK3.out; have := HK4.out; have := HK5.out; have := HJ103.out; have := HK7.out; omega
                                                        case rel => exact ⟨(x11_7), (wrap64 (x12_5 + 1)), (by first | rfl | (simp; done) | (simp [*]; done)), (by first | rfl | (simp; done) | (simp [*]; done)), H', ⟨by have := HJ4.out; have := HJ31.out; have := HK3.out; have := HK4.out; have := HK5.out; have := HJ103.out; have := HK7.out; omega⟩, ⟨by (with_reducible repeat (first | apply Kd.R_alloc | apply Kd.R_drewN | apply Kd.R_drew)); exact HO_127002.out⟩, ⟨by (with_reducible repeat (first | refine blk_drewN ?_ _ | refine blk_drew ?_ | refine blk_alloc ?_ _)); exact BK122.out⟩, ⟨by (with_reducible repeat (first | refine blk_drewN ?_ _ | refine blk_drew ?_ | refine blk_alloc ?_ _)); exact BK123.out⟩, ⟨by (with_reducible repeat (first | refine blk_drewN ?_ _ | refine blk_drew ?_ | refine blk_alloc ?_ _)); exact BK124.out⟩, ⟨by (with_reducible repeat (first | refine blk_drewN ?_ _ | refine blk_drew ?_ | refine blk_alloc ?_ _)); exact BK126.out⟩, ⟨by repeat (first | (with_reducible first | exact HB.out | apply below_alloc | apply pw_below_drewN | apply below_drew1 | refine below_set ?_ GE122.out | refine below_set ?_ GE123.out | refine below_set ?_ GE124.out | refine below_set ?_ GE126.out) | exact HB.out)⟩⟩
                                              · replace c114 := Bool.eq_false_iff.mpr c114
                                                subst c114
                                                have H1 : (if (wrap64 (2 * (wrap64 (a1_2 * a1_3)))) = 0 then (none) else (if x127002_4.length < 17592186044416 then (asset_Render.l1 kj103 (wrap64 (a1_2 * a1_3)) x108_3 a1_5 x108_3 a1_4 (wrap64 (x113_4 + 1)) a0_0 a0_1 l0_2 a1_0 a1_1 a1_2 a1_3 a1_4 a1_5 a1_4 a1_5 (x127002_4 ++ [wrap64 (Int.tdiv (wrap64 ((wrap64 (2 * x11_5)) + (wrap64 (a1_2 * a1_3)))) (wrap64 (2 * (wrap64 (a1_2 * a1_3)))))])) else (none))) = some (r1, r2, r3, r4) := by rw [if_neg (show ¬ (false = true) by decide)] at H; exact H
                                                clear H
                                                have H := H1
                                                clear H1
                                                by_cases c146 : (wrap64 (2 * (wrap64 (a1_2 * a1_3)))) = 0
                                                · rw [if_pos c146] at H
                                                  exact absurd H (by simp)
                                                · rw [if_neg c146] at H
                                                  have c146b0 : ((wrap64 (2 * (wrap64 (a1_2 * a1_3)))) == 0) = false := beq_eq_false_iff_ne.mpr c146
                                                  have c146b1 : ((wrap64 (2 * (wrap64 (a1_2 * a1_3)))) != 0) = true := bne_iff_ne.mpr c146
                                                  by_cases c147 : x127002_4.length < 17592186044416
                                                  · rw [if_pos c147] at H
                                                    have LMc147 := Aside0.mk c147
                                                    clear c147
                                                    obtain ⟨y127, hy127⟩ : ∃ y_ : List Int, y_ = (x127002_4 ++ [wrap64 (Int.tdiv (wrap64 ((wrap64 (2 * x11_5)) + (wrap64 (a1_2 * a1_3)))) (wrap64 (2 * (wrap64 (a1_2 * a1_3)))))]) := ⟨_, rfl⟩
                                                    replace H : (asset_Render.l1 kj103 (wrap64 (a1_2 * a1_3)) x108_3 a1_5 x108_3 a1_4 (wrap64 (x113_4 + 1)) a0_0 a0_1 l0_2 a1_0 a1_1 a1_2 a1_3 a1_4 a1_5 a1_4 a1_5 y127) = some (r1, r2, r3, r4) := by first | (rw [hy127]; with_reducible exact H) | (have H2_ := (Option.bind_some _ _).symm.trans H; rw [hy127]; with_reducible exact H2_) | (have H2_ := (Option.bind_some _ _).symm.trans H; with_reducible exact H2_) | with_reducible exact H | (rw [hy127]; exact H) | exact H
                                                    have Ny127 := Aside0.mk hy127
                                                    clear hy127
                                                    have H' := Aside0.mk H
                                                    clear H
                                                    try go_wp2
                                                    have n0_ := Aside0.mk (Kd.R_drew HO_127002.out)
                                                    have n1_ := Aside0.mk (blk_drew BK122.out)
                                                    have n2_ := Aside0.mk (blk_drew BK123.out)
                                                    have n3_ := Aside0.mk (blk_drew BK124.out)
                                                    have n4_ := Aside0.mk (blk_drew BK126.out)
                                                    have n5_ := Aside0.mk (below_drew1 HB.out)
                                                    clear HO_127002
                                                    clear BK122
                                                    clear BK123
                                                    clear BK124
                                                    clear BK126
                                                    clear HB
                                                    have HO_127002 := n0_
                                                    have BK122 := n1_
                                                    have BK123 := n2_
                                                    have BK124 := n3_
                                                    have BK126 := n4_
                                                    have HB := n5_
                                                    clear n0_ n1_ n2_ n3_ n4_ n5_
                                                    refine start_ (n := 13) (S := fun w' => w'.cell? ⟨gb126, 0, none⟩ = some (.int .i64 a1_4) ∧ w'.cell? ⟨gb126, 1, none⟩ = some (.int .i64 a1_5) ∧ w'.cell? ⟨gb126, 2, none⟩ = some (u127002)) (ds := [12]) #[false, false, false, false, false, false, false, false, false, false, false, false, false] (by kernel_rfl) rfl rfl ⟨(blk_cell BK126.out 0).trans rfl, (blk_cell BK126.out 1).trans rfl, (blk_cell BK126.out 2).trans rfl⟩ (fun hHeld => ?_); refine with_tabW asset_Render.tab26 asset_Render.bits26 (fun HT_ HW_ => ?_)
                                                    generalize wc.drew = w148 at HO_127002 BK122 BK123 BK124 BK126 HB hHeld ⊢
                                                    refine pure_ (i := 0) (N := some 226) (v := ?_) (a' := ?_) #[true, false, false, false, false, false, false, false, false, false, false, false, false] rfl rfl (any_of HT_.out (by kernel_rfl)) (fun _ _ _ h => h) (Or.inl ⟨by rfl, ?_⟩) ?_ ?_
                                                    rotate_left
                                                    · intro w'
                                                      go_simp
                                                      with_reducible rfl
                                                    rotate_left
                                                    · simp only [Act.put, List.setIfInBounds_toArray, List.set_cons_zero, List.set_cons_succ, i64_w, i32_w]
                                                      rfl
                                                    refine pure_ (i := 2) (N := some 228) (v := ?_) (a' := ?_) #[true, false, true, false, false, false, false, false, false, false, false, false, false] rfl rfl (any_of HT_.out (by kernel_rfl)) (fun _ _ _ h => h) (Or.inl ⟨by rfl, ?_⟩) ?_ ?_
                                                    rotate_left
                                                    · intro w'
                                                      go_simp
                                                      with_reducible rfl
                                                    rotate_left
                                                    · simp only [Act.put, List.setIfInBounds_toArray, List.set_cons_zero, List.set_cons_succ, i64_w, i32_w]
                                                      rfl
                                                    refine pure_ (i := 3) (N := some 229) (v := ?_) (a' := ?_) #[true, false, true, true, false, false, false, false, false, false, false, false, false] rfl rfl (any_of HT_.out (by kernel_rfl)) (fun _ _ _ h => h) (Or.inl ⟨by rfl, ?_⟩) ?_ ?_
                                                    rotate_left
                                                    · intro w'
                                                      go_simp
                                                      with_reducible rfl
                                                    rotate_left
                                                    · simp only [Act.put, List.setIfInBounds_toArray, List.set_cons_zero, List.set_cons_succ, i64_w, i32_w]
                                                      rfl
                                                    refine pure_ (i := 4) (N := some 230) (v := ?_) (a' := ?_) #[true, false, true, true, true, false, false, false, false, false, false, false, false] rfl rfl (any_of HT_.out (by kernel_rfl)) (fun _ _ _ h => h) (Or.inl ⟨by rfl, ?_⟩) ?_ ?_
                                                    rotate_left
                                                    · intro w'
                                                      go_simp
                                                      with_reducible rfl
                                                    rotate_left
                                                    · simp only [Act.put, List.setIfInBounds_toArray, List.set_cons_zero, List.set_cons_succ, i64_w, i32_w]
                                                      rfl
                                                    refine pure_ (i := 5) (N := some 231) (v := ?_) (a' := ?_) #[true, false, true, true, true, true, false, false, false, false, false, false, false] rfl rfl (any_of HT_.out (by kernel_rfl)) (fun _ _ _ h => h) (Or.inl ⟨by rfl, ?_⟩) ?_ ?_
                                                    rotate_left
                                                    · intro w'
                                                      go_simp
                                                      with_reducible rfl
                                                    rotate_left
                                                    · simp only [Act.put, List.setIfInBounds_toArray, List.set_cons_zero, List.set_cons_succ, i64_w, i32_w]
                                                      rfl
                                                    refine pure_ (i := 6) (N := some 232) (v := ?_) (a' := ?_) #[true, false, true, true, true, true, true, false, false, false, false, false, false] rfl rfl (any_of HT_.out (by kernel_rfl)) (fun _ _ _ h => h) (Or.inl ⟨by rfl, ?_⟩) ?_ ?_
                                                    rotate_left
                                                    · intro w'
                                                      go_simp
                                                      with_reducible rfl
                                                    rotate_left
                                                    · simp only [Act.put, List.setIfInBounds_toArray, List.set_cons_zero, List.set_cons_succ, i64_w, i32_w]
                                                      rfl
                                                    refine pure_ (i := 7) (N := some 233) (v := ?_) (a' := ?_) #[true, false, true, true, true, true, true, true, false, false, false, false, false] rfl rfl (any_of HT_.out (by kernel_rfl)) (fun _ _ _ h => h) (Or.inl ⟨by rfl, ?_⟩) ?_ ?_
                                                    rotate_left
                                                    · intro w'
                                                      go_simp
                                                      with_reducible rfl
                                                    rotate_left
                                                    · simp only [Act.put, List.setIfInBounds_toArray, List.set_cons_zero, List.set_cons_succ, i64_w, i32_w]
                                                      rfl
                                                    refine pure_ (i := 8) (N := some 234) (v := ?_) (a' := ?_) #[true, false, true, true, true, true, true, true, true, false, false, false, false] rfl rfl (any_of HT_.out (by kernel_rfl)) (fun _ _ _ h => h) (Or.inl ⟨by rfl, ?_⟩) ?_ ?_
                                                    rotate_left
                                                    · intro w'
                                                      go_simp
                                                      with_reducible rfl
                                                    rotate_left
                                                    · simp only [Act.put, List.setIfInBounds_toArray, List.set_cons_zero, List.set_cons_succ, i64_w, i32_w]
                                                      rfl
                                                    refine take_ (i := 1) (N := some 227) (v := ?_) (a' := ?_) #[true, true, true, true, true, true, true, true, true, false, false, false, false] rfl rfl (take_ofW HT_.out HW_.out (by kernel_rfl)) (fun _ _ _ h => h) (Or.inl ⟨by rfl, ?_⟩) hHeld ?_ ?_
                                                    rotate_left
                                                    · rintro w' ⟨s0, s1, s2⟩
                                                      go_simp
                                                      with_reducible rfl
                                                    rotate_left
                                                    · simp only [Act.put, List.setIfInBounds_toArray, List.set_cons_zero, List.set_cons_succ, i64_w, i32_w]
                                                      rfl
                                                    refine one_ (i := 9) (N := some 235) #[true, true, true, true, true, true, true, true, true, true, false, false, false] rfl rfl (one_of HT_.out (by kernel_rfl)) (by decide) (fun K hK => ?_)
                                                    refine value_ (w1 := ?_) (v := ?_) (by rfl) rfl ?_ ?_
                                                    rotate_left 2
                                                    · go_simp
                                                      constructor
                                                      · rfl
                                                      · rfl
                                                    refine hK.out _ _ ⟨(blk_cell (blk_alloc BK126.out _) 0).trans rfl, (blk_cell (blk_alloc BK126.out _) 1).trans rfl, (blk_cell (blk_alloc BK126.out _) 2).trans rfl⟩ (fun hHeld => ?_)
                                                    clear hK K
                                                    refine norm_ (a' := ?_) ?_ ?_
                                                    rotate_left
                                                    · show Act.put _ (some 235) _ = _
                                                      simp only [Act.put, List.setIfInBounds_toArray, List.set_cons_zero, List.set_cons_succ, i64_w, i32_w]
                                                      rfl
                                                    refine one_ (i := 10) (N := some 236) #[true, true, true, true, true, true, true, true, true, true, true, false, false] rfl rfl (one_of HT_.out (by kernel_rfl)) (by decide) (fun K hK => ?_)
                                                    refine Kd.R_append_step (Kd.int .i64) (w0 := w) w.heap.size (by rfl) (.tmp 227) (.tmp 235) 27 3 (.int .i64 0) 8 rfl Try.underlying27 info3 rfl (by decide) (by omega) u127002 x127002_4 (wrap64 (Int.tdiv (wrap64 ((wrap64 (2 * x11_5)) + (wrap64 (a1_2 * a1_3)))) (wrap64 (2 * (wrap64 (a1_2 * a1_3)))))) [.int .i64 (wrap64 (Int.tdiv (wrap64 ((wrap64 (2 * x11_5)) + (wrap64 (a1_2 * a1_3)))) (wrap64 (2 * (wrap64 (a1_2 * a1_3))))))] (fun _ => True) (fun _ => False) rfl rfl ?aP (fun _ hk => hk.elim) ?aF ?aO ?aB ?aS ?aL ?_
                                                    (case aP => exact rfl)
                                                    (case aB => exact (by repeat (first | (with_reducible first | exact HB.out | apply below_alloc | apply pw_below_drewN | apply below_drew1 | refine below_set ?_ GE122.out | refine below_set ?_ GE123.out | refine below_set ?_ GE124.out | refine below_set ?_ GE126.out) | exact HB.out)))
                                                    (case aF => exact (fun _ _ => trivial))
                                                    (case aO => exact (by (with_reducible repeat (first | apply Kd.R_alloc | apply Kd.R_drewN | apply Kd.R_drew)); exact HO_127002.out))
                                                    (case aS => exact (below_size (by repeat (first | (with_reducible first | exact HB.out | apply below_alloc | apply pw_below_drewN | apply below_drew1 | refine below_set ?_ GE122.out | refine below_set ?_ GE123.out | refine below_set ?_ GE124.out | refine below_set ?_ GE126.out) | exact HB.out))))
                                                    (case aL => have := LMc147.out; omega)
                                                    intro v128 w149 ho hb hg hat
                                                    rw [← Ny127.out] at ho
                                                    have n0_ := Aside0.mk (blk_grown (g := gb122) (o := .cells #[.int .i64 a0_0, .int .i64 a0_1, .slice A0_2 l0_2.length c0_2] 29 (0, 0)) (by (with_reducible repeat (first | refine blk_drewN ?_ _ | refine blk_drew ?_ | refine blk_alloc ?_ _)); exact BK122.out) hg (Kd.R_ne HO_127002.out BK122.out (by decide)))
                                                    have n1_ := Aside0.mk (blk_grown (g := gb123) (o := .cells #[.int .i64 a1_0, .int .i64 a1_1, .int .i64 a1_2, .int .i64 a1_3, .int .i64 a1_4, .int .i64 a1_5] 33 (0, 0)) (by (with_reducible repeat (first | refine blk_drewN ?_ _ | refine blk_drew ?_ | refine blk_alloc ?_ _)); exact BK123.out) hg (Kd.R_ne HO_127002.out BK123.out (by decide)))
                                                    have n2_ := Aside0.mk (blk_grown (g := gb124) (o := .cells #[.int .i64 0, .int .i64 0, .slice none 0 0] 29 (0, 0)) (by (with_reducible repeat (first | refine blk_drewN ?_ _ | refine blk_drew ?_ | refine blk_alloc ?_ _)); exact BK124.out) hg (Kd.R_ne HO_127002.out BK124.out (by decide)))
                                                    have n3_ := Aside0.mk (blk_grown (g := gb126) (o := .cells #[.int .i64 a1_4, .int .i64 a1_5, u127002] 29 (0, 0)) (by (with_reducible repeat (first | refine blk_drewN ?_ _ | refine blk_drew ?_ | refine blk_alloc ?_ _)); exact BK126.out) hg (Kd.R_ne HO_127002.out BK126.out (by decide)))
                                                    have n4_ := Aside0.mk (hb)
                                                    have n5_ := Aside0.mk (ho)
                                                    clear BK122
                                                    clear BK123
                                                    clear BK124
                                                    clear BK126
                                                    clear HB
                                                    clear HO_127002
                                                    have BK122 := n0_
                                                    have BK123 := n1_
                                                    have BK124 := n2_
                                                    have BK126 := n3_
                                                    have HB := n4_
                                                    have HO129 := n5_
                                                    clear n0_ n1_ n2_ n3_ n4_ n5_
                                                    clear ho hb hg hat
                                                    obtain ⟨Ao150, co150, eo150⟩ := Kd.R_slice HO129.out
                                                    (first | subst eo150 | (injection eo150 with f1_ f2_ f3_; have f4_ := f1_.symm; have f5_ := f3_.symm; clear f1_ f2_ f3_; subst f4_; subst f5_))
                                                    refine hK.out _ _ ⟨(blk_cell BK126.out 0).trans rfl, (blk_cell BK126.out 1).trans rfl, (blk_cell BK126.out 2).trans rfl⟩ (fun hHeld => ?_)
                                                    clear hK K
                                                    refine norm_ (a' := ?_) ?_ ?_
                                                    rotate_left
                                                    · show Act.put _ (some 236) _ = _
                                                      simp only [Act.put, List.setIfInBounds_toArray, List.set_cons_zero, List.set_cons_succ, i64_w, i32_w]
                                                      rfl
                                                    refine pure_ (i := 11) (N := some 237) (v := ?_) (a' := ?_) #[true, true, true, true, true, true, true, true, true, true, true, true, false] rfl rfl (any_of HT_.out (by kernel_rfl)) (fun _ _ _ h => h) (Or.inl ⟨by rfl, ?_⟩) ?_ ?_
                                                    rotate_left
                                                    · intro w'
                                                      go_simp
                                                      with_reducible rfl
                                                    rotate_left
                                                    · simp only [Act.put, List.setIfInBounds_toArray, List.set_cons_zero, List.set_cons_succ, i64_w, i32_w]
                                                      rfl
                                                    refine last_ (i := 12) (N := none) #[true, true, true, true, true, true, true, true, true, true, true, true, true] rfl rfl (one_of HT_.out (by kernel_rfl)) (by decide) (fun K hK => ?_)
                                                    have hs151 : w149.cell? ⟨gb126, 2, none⟩ = some (u127002) := (blk_cell BK126.out 2).trans rfl
                                                    have hfs151 := blk_frozen BK126.out 2
                                                    have hns151_0 := NB122_126.out
                                                    have hns151_1 := NB123_126.out
                                                    have hns151_2 := NB124_126.out
                                                    have hms151_0 := NB126_122.out
                                                    have hms151_1 := NB126_123.out
                                                    have hms151_2 := NB126_124.out
                                                    refine skip_ (w1 := ?_) (by rfl) rfl ?_ ?_
                                                    rotate_left
                                                    · go_simp
                                                      rfl
                                                    refine hK.out _ _ ?_
                                                    clear hK K
                                                    refine done_ (done_of HT_.out (by kernel_rfl)) ?_
                                                    try go_wp2
                                                    go_roundg kj103
                                                    case measure => have := HJ4.out; have := HJ31.out; have := HK3.out; have := HK4.out; have := HK5.out; have := HJ103.out; omega
                                                    case rel => exact ⟨(wrap64 (x113_4 + 1)), (y127), (.slice Ao150 y127.length co150), (by first | rfl | (simp; done) | (simp [*]; done)), H', ⟨by have := HJ4.out; have := HJ31.out; have := HK3.out; have := HK4.out; have := HK5.out; have := HJ103.out; omega⟩, ⟨by (with_reducible repeat (first | apply Kd.R_alloc | apply Kd.R_drewN | apply Kd.R_drew)); exact Kd.R_mono (Kd.R_far (p := ⟨gb126, 2, none⟩) (Kd.R_types HO129.out BK126.out (by decide)) (fun _ hk => hk.2) (.slice Ao150 y127.length co150)) (fun _ hk => trivial)⟩, ⟨by (with_reducible repeat (first | refine blk_drewN ?_ _ | refine blk_drew ?_ | refine blk_alloc ?_ _)); refine blk_far ?_ NB122_126.out _; (with_reducible repeat (first | refine blk_drewN ?_ _ | refine blk_drew ?_ | refine blk_alloc ?_ _)); exact BK122.out⟩, ⟨by (with_reducible repeat (first | refine blk_drewN ?_ _ | refine blk_drew ?_ | refine blk_alloc ?_ _)); refine blk_far ?_ NB123_126.out _; (with_reducible repeat (first | refine blk_drewN ?_ _ | refine blk_drew ?_ | refine blk_alloc ?_ _)); exact BK123.out⟩, ⟨by (with_reducible repeat (first | refine blk_drewN ?_ _ | refine blk_drew ?_ | refine blk_alloc ?_ _)); refine blk_far ?_ NB124_126.out _; (with_reducible repeat (first | refine blk_drewN ?_ _ | refine blk_drew ?_ | refine blk_alloc ?_ _)); exact BK124.out⟩, ⟨by (with_reducible repeat (first | refine blk_drewN ?_ _ | refine blk_drew ?_ | refine blk_alloc ?_ _)); refine blk_put (cs := #[.int .i64 a1_4, .int .i64 a1_5, u127002]) ?_ 2 _ rfl; (with_reducible repeat (first | refine blk_drewN ?_ _ | refine blk_drew ?_ | refine blk_alloc ?_ _)); exact BK126.out⟩, ⟨by repeat (first | (with_reducible first | exact HB.out | apply below_alloc | apply pw_below_drewN | apply below_drew1 | refine below_set ?_ GE122.out | refine below_set ?_ GE123.out | refine below_set ?_ GE124.out | refine below_set ?_ GE126.out) | exact HB.out)⟩⟩
                                                  · rw [if_neg c147] at H
                                                    exact absurd H (by simp)
                                  · rw [if_neg c98] at H
                                    have c98b0 : decide (x113_4 < a1_4) = false := decide_eq_false c98
                                    clear c98
                                    have H' := Aside0.mk H
                                    clear H
                                    go_wp2
                                    go_roundg k4
                                    case measure => have := HJ4.out; have := HJ31.out; have := HK3.out; have := HK4.out; omega
                                    case rel => exact ⟨(wrap64 (x108_3 + 1)), (x127002_4), (u127002), (by first | rfl | (simp; done) | (simp [*]; done)), H', ⟨by have := HJ4.out; have := HJ31.out; have := HK3.out; have := HK4.out; omega⟩, ⟨by (with_reducible repeat (first | apply Kd.R_alloc | apply Kd.R_drewN | apply Kd.R_drew)); exact HO_127002.out⟩, ⟨by (with_reducible repeat (first | refine blk_drewN ?_ _ | refine blk_drew ?_ | refine blk_alloc ?_ _)); exact BK122.out⟩, ⟨by (with_reducible repeat (first | refine blk_drewN ?_ _ | refine blk_drew ?_ | refine blk_alloc ?_ _)); exact BK123.out⟩, ⟨by (with_reducible repeat (first | refine blk_drewN ?_ _ | refine blk_drew ?_ | refine blk_alloc ?_ _)); exact BK124.out⟩, ⟨by (with_reducible repeat (first | refine blk_drewN ?_ _ | refine blk_drew ?_ | refine blk_alloc ?_ _)); exact BK126.out⟩, ⟨by repeat (first | (with_reducible first | exact HB.out | apply below_alloc | apply pw_below_drewN | apply below_drew1 | refine below_set ?_ GE122.out | refine below_set ?_ GE123.out | refine below_set ?_ GE124.out | refine below_set ?_ GE126.out) | exact HB.out)⟩⟩
                            · rw [if_neg c93] at H
                              have c93b0 : decide (x108_3 < a1_5) = false := decide_eq_false c93
                              clear c93
                              simp only [Option.some.injEq, Prod.mk.injEq] at H
                              obtain ⟨rfl, rfl, rfl, rfl⟩ := H
                              have hnb152 := NB126_122.out
                              have hnc152 := NB122_126.out
                              have hnb153 := NB126_123.out
                              have hnc153 := NB123_126.out
                              have hnb154 := NB126_124.out
                              have hnc154 := NB124_126.out
                              have hcz155_0 : wr.cell? ⟨gb126, 0, none⟩ = some (.int .i64 a1_4) := (blk_cell BK126.out 0).trans rfl
                              have hcz155_1 : wr.cell? ⟨gb126, 1, none⟩ = some (.int .i64 a1_5) := (blk_cell BK126.out 1).trans rfl
                              have hcz155_2 : wr.cell? ⟨gb126, 2, none⟩ = some (u127002) := (blk_cell BK126.out 2).trans rfl
                              have hfz155_0 := blk_frozen BK126.out 0
                              have hfz155_1 := blk_frozen BK126.out 1
                              have hfz155_2 := blk_frozen BK126.out 2
                              have hnb156 := NB124_122.out
                              have hnc156 := NB122_124.out
                              have hnb157 := NB124_123.out
                              have hnc157 := NB123_124.out
                              have hcz158_0 : wr.cell? ⟨gb124, 0, none⟩ = some (.int .i64 0) := (blk_cell BK124.out 0).trans rfl
                              have hcz158_1 : wr.cell? ⟨gb124, 1, none⟩ = some (.int .i64 0) := (blk_cell BK124.out 1).trans rfl
                              have hcz158_2 : wr.cell? ⟨gb124, 2, none⟩ = some (.slice none 0 0) := (blk_cell BK124.out 2).trans rfl
                              have hfz158_0 := blk_frozen BK124.out 0
                              have hfz158_1 := blk_frozen BK124.out 1
                              have hfz158_2 := blk_frozen BK124.out 2
                              obtain ⟨Ao159, co159, eo159⟩ := Kd.R_slice HO_127002.out
                              subst eo159
                              go_wp2
                              refine bodyPost_ret (results_ct rfl _ _ gb124 29 #[.int .i64 a1_4, .int .i64 a1_5, .slice Ao159 x127002_3.length co159] (0, 0) _ rfl (by (with_reducible repeat (first | refine blk_drewN ?_ _ | refine blk_drew ?_ | refine blk_alloc ?_ _)); refine blk_put (cs := #[.int .i64 a1_4, .int .i64 a1_5, .slice none 0 0]) ?_ 2 _ rfl; (with_reducible repeat (first | refine blk_drewN ?_ _ | refine blk_drew ?_ | refine blk_alloc ?_ _)); refine blk_put (cs := #[.int .i64 a1_4, .int .i64 0, .slice none 0 0]) ?_ 1 _ rfl; (with_reducible repeat (first | refine blk_drewN ?_ _ | refine blk_drew ?_ | refine blk_alloc ?_ _)); refine blk_put (cs := #[.int .i64 0, .int .i64 0, .slice none 0 0]) ?_ 0 _ rfl; (with_reducible repeat (first | refine blk_drewN ?_ _ | refine blk_drew ?_ | refine blk_alloc ?_ _)); exact BK124.out) Try.underlying29 rfl (by kernel_rfl)) rfl ?_
                              exact ⟨_, by first | rfl | (simp [errW_none, errW_some] <;> rfl) | (simp [*, errW_none, errW_some] <;> rfl), by (with_reducible repeat (first | apply Kd.R_alloc | apply Kd.R_drewN | apply Kd.R_drew)); exact Kd.R_mono (Kd.R_far (p := ⟨gb124, 2, none⟩) (Kd.R_far (p := ⟨gb124, 1, none⟩) (Kd.R_far (p := ⟨gb124, 0, none⟩) (Kd.R_types HO_127002.out BK124.out (by decide)) (fun _ hk => hk.2) (.int .i64 a1_4)) (fun _ hk => hk.2) (.int .i64 a1_5)) (fun _ hk => hk.2) (.slice Ao159 x127002_3.length co159)) (fun _ hk => trivial), by repeat (first | (with_reducible first | exact HB.out | apply below_alloc | apply pw_below_drewN | apply below_drew1 | refine below_set ?_ GE122.out | refine below_set ?_ GE123.out | refine below_set ?_ GE124.out | refine below_set ?_ GE126.out) | exact HB.out)⟩
  · rw [if_neg c4] at H
    have c4b0 : (t125 == 0) = false := beq_eq_false_iff_ne.mpr c4
    have c4b1 : (t125 != 0) = true := bne_iff_ne.mpr c4
    simp only [Option.some.injEq, Prod.mk.injEq] at H
    obtain ⟨rfl, rfl, rfl, rfl⟩ := H
    go_enter Try.func10, Try.ntmps10
    go_wp2_with (first | ((with_reducible refine gate_dst (N := 2) rfl ?_); refine box_event ?hg (N := 2) ?hd (cs := #[.int .i64 a0_0, .int .i64 a0_1, .slice A0_2 l0_2.length c0_2]) (t := 29) ?hr ?_; (case hd => rfl); (case hg => rfl); (case hr => first | (go_simp; done) | (go_simp; rfl)); intro gb122 hg w160 hbox hb; have n0_ := Aside0.mk (below_step (by repeat (first | (with_reducible first | exact HB.out | apply below_alloc | apply pw_below_drewN | apply below_drew1) | exact HB.out)) hb); have n1_ := Aside0.mk (hbox); have n2_ := Aside0.mk ((by rw [hg]; exact (below_size (by repeat (first | (with_reducible first | exact HB.out | apply below_alloc | apply pw_below_drewN | apply below_drew1) | exact HB.out))) : w.heap.size ≤ gb122)); have n3_ := Aside0.mk ((by rw [hg]; exact (below_size (by repeat (first | (with_reducible first | exact HB.out | apply below_alloc | apply pw_below_drewN | apply below_drew1) | exact HB.out))) : w.heap.size ≤ gb122)); clear HB; have HB := n0_; have BK122 := n1_; have GW122 := n2_; have GE122 := n3_; clear n0_ n1_ n2_ n3_; clear hb hbox hg) | ((with_reducible refine gate_dst (N := 3) rfl ?_); refine box_event ?hg (N := 3) ?hd (cs := #[.int .i64 a1_0, .int .i64 a1_1, .int .i64 a1_2, .int .i64 a1_3, .int .i64 a1_4, .int .i64 a1_5]) (t := 33) ?hr ?_; (case hd => rfl); (case hg => rfl); (case hr => first | (go_simp; done) | (go_simp; rfl)); intro gb123 hg w161 hbox hb; have n0_ := Aside0.mk (blk_below (g := gb122) (o := .cells #[.int .i64 a0_0, .int .i64 a0_1, .slice A0_2 l0_2.length c0_2] 29 (0, 0)) (by (with_reducible repeat (first | refine blk_drewN ?_ _ | refine blk_drew ?_ | refine blk_alloc ?_ _)); exact BK122.out) hb); have n1_ := Aside0.mk (below_step (by repeat (first | (with_reducible first | exact HB.out | apply below_alloc | apply pw_below_drewN | apply below_drew1 | refine below_set ?_ GE122.out) | exact HB.out)) hb); have n2_ := Aside0.mk (hbox); have n3_ := Aside0.mk ((by rw [hg]; exact (below_size (by repeat (first | (with_reducible first | exact HB.out | apply below_alloc | apply pw_below_drewN | apply below_drew1 | refine below_set ?_ GE122.out) | exact HB.out))) : w.heap.size ≤ gb123)); have n4_ := Aside0.mk ((by rw [hg]; exact (below_size (by repeat (first | (with_reducible first | exact HB.out | apply below_alloc | apply pw_below_drewN | apply below_drew1 | refine below_set ?_ GE122.out) | exact HB.out))) : w.heap.size ≤ gb123)); have n5_ := Aside0.mk ((by rw [hg]; exact Nat.ne_of_lt (blk_lt (g := gb122) (o := .cells #[.int .i64 a0_0, .int .i64 a0_1, .slice A0_2 l0_2.length c0_2] 29 (0, 0)) (by (with_reducible repeat (first | refine blk_drewN ?_ _ | refine blk_drew ?_ | refine blk_alloc ?_ _)); exact BK122.out)) : gb122 ≠ gb123)); have n6_ := Aside0.mk ((by rw [hg]; exact Nat.ne_of_gt (blk_lt (g := gb122) (o := .cells #[.int .i64 a0_0, .int .i64 a0_1, .slice A0_2 l0_2.length c0_2] 29 (0, 0)) (by (with_reducible repeat (first | refine blk_drewN ?_ _ | refine blk_drew ?_ | refine blk_alloc ?_ _)); exact BK122.out)) : gb123 ≠ gb122)); clear BK122; clear HB; have BK122 := n0_; have HB := n1_; have BK123 := n2_; have GW123 := n3_; have GE123 := n4_; have NB122_123 := n5_; have NB123_122 := n6_; clear n0_ n1_ n2_ n3_ n4_ n5_ n6_; clear hb hbox hg) | ((with_reducible refine gate_dst (N := 4) rfl ?_); refine box_event ?hg (N := 4) ?hd (cs := #[.int .i64 0, .int .i64 0, .slice none 0 0]) (t := 29) ?hr ?_; (case hd => rfl); (case hg => rfl); (case hr => first | (go_simp; done) | (go_simp; rfl)); intro gb124 hg w162 hbox hb; have n0_ := Aside0.mk (blk_below (g := gb122) (o := .cells #[.int .i64 a0_0, .int .i64 a0_1, .slice A0_2 l0_2.length c0_2] 29 (0, 0)) (by (with_reducible repeat (first | refine blk_drewN ?_ _ | refine blk_drew ?_ | refine blk_alloc ?_ _)); exact BK122.out) hb); have n1_ := Aside0.mk (blk_below (g := gb123) (o := .cells #[.int .i64 a1_0, .int .i64 a1_1, .int .i64 a1_2, .int .i64 a1_3, .int .i64 a1_4, .int .i64 a1_5] 33 (0, 0)) (by (with_reducible repeat (first | refine blk_drewN ?_ _ | refine blk_drew ?_ | refine blk_alloc ?_ _)); exact BK123.out) hb); have n2_ := Aside0.mk (below_step (by repeat (first | (with_reducible first | exact HB.out | apply below_alloc | apply pw_below_drewN | apply below_drew1 | refine below_set ?_ GE122.out | refine below_set ?_ GE123.out) | exact HB.out)) hb); have n3_ := Aside0.mk (hbox); have n4_ := Aside0.mk ((by rw [hg]; exact (below_size (by repeat (first | (with_reducible first | exact HB.out | apply below_alloc | apply pw_below_drewN | apply below_drew1 | refine below_set ?_ GE122.out | refine below_set ?_ GE123.out) | exact HB.out))) : w.heap.size ≤ gb124)); have n5_ := Aside0.mk ((by rw [hg]; exact (below_size (by repeat (first | (with_reducible first | exact HB.out | apply below_alloc | apply pw_below_drewN | apply below_drew1 | refine below_set ?_ GE122.out | refine below_set ?_ GE123.out) | exact HB.out))) : w.heap.size ≤ gb124)); have n6_ := Aside0.mk ((by rw [hg]; exact Nat.ne_of_lt (blk_lt (g := gb122) (o := .cells #[.int .i64 a0_0, .int .i64 a0_1, .slice A0_2 l0_2.length c0_2] 29 (0, 0)) (by (with_reducible repeat (first | refine blk_drewN ?_ _ | refine blk_drew ?_ | refine blk_alloc ?_ _)); exact BK122.out)) : gb122 ≠ gb124)); have n7_ := Aside0.mk ((by rw [hg]; exact Nat.ne_of_gt (blk_lt (g := gb122) (o := .cells #[.int .i64 a0_0, .int .i64 a0_1, .slice A0_2 l0_2.length c0_2] 29 (0, 0)) (by (with_reducible repeat (first | refine blk_drewN ?_ _ | refine blk_drew ?_ | refine blk_alloc ?_ _)); exact BK122.out)) : gb124 ≠ gb122)); have n8_ := Aside0.mk ((by rw [hg]; exact Nat.ne_of_lt (blk_lt (g := gb123) (o := .cells #[.int .i64 a1_0, .int .i64 a1_1, .int .i64 a1_2, .int .i64 a1_3, .int .i64 a1_4, .int .i64 a1_5] 33 (0, 0)) (by (with_reducible repeat (first | refine blk_drewN ?_ _ | refine blk_drew ?_ | refine blk_alloc ?_ _)); exact BK123.out)) : gb123 ≠ gb124)); have n9_ := Aside0.mk ((by rw [hg]; exact Nat.ne_of_gt (blk_lt (g := gb123) (o := .cells #[.int .i64 a1_0, .int .i64 a1_1, .int .i64 a1_2, .int .i64 a1_3, .int .i64 a1_4, .int .i64 a1_5] 33 (0, 0)) (by (with_reducible repeat (first | refine blk_drewN ?_ _ | refine blk_drew ?_ | refine blk_alloc ?_ _)); exact BK123.out)) : gb124 ≠ gb123)); clear BK122; clear BK123; clear HB; have BK122 := n0_; have BK123 := n1_; have HB := n2_; have BK124 := n3_; have GW124 := n4_; have GE124 := n5_; have NB122_124 := n6_; have NB124_122 := n7_; have NB123_124 := n8_; have NB124_123 := n9_; clear n0_ n1_ n2_ n3_ n4_ n5_ n6_ n7_ n8_ n9_; clear hb hbox hg; have hnb163 := NB122_123.out; have hnc163 := NB123_122.out; have hnb164 := NB122_124.out; have hnc164 := NB124_122.out; have hcz165_0 : w162.cell? ⟨gb122, 0, none⟩ = some (.int .i64 a0_0) := (blk_cell BK122.out 0).trans rfl; have hcz165_1 : w162.cell? ⟨gb122, 1, none⟩ = some (.int .i64 a0_1) := (blk_cell BK122.out 1).trans rfl; have hcz165_2 : w162.cell? ⟨gb122, 2, none⟩ = some (.slice A0_2 l0_2.length c0_2) := (blk_cell BK122.out 2).trans rfl; have hfz165_0 := blk_frozen BK122.out 0; have hfz165_1 := blk_frozen BK122.out 1; have hfz165_2 := blk_frozen BK122.out 2) | ((with_reducible refine gate_callee (f := 11) rfl ?_); refine goesL_ (some 17) rfl rfl Try.func11 (by kernel_rfl) rfl #[.agg #[.int .i64 a0_0, .int .i64 a0_1, .slice A0_2 l0_2.length c0_2]] rfl (by (try simp only [List.map_toArray, List.map_cons, List.map_nil]); first | done | rfl | (simp only [List.length_drop, List.length_take]; rfl)) ?_; (with_reducible refine (asset_CheckImage.calls k a0_0 a0_1 _ _ l0_2 t125 _ ?side1 ?side2 A3.out).mono ?_); (case side1 => repeat (first | exact (Kd.C_below HR0_2.out HB.out) | (with_reducible refine Kd.C_alloc ?_ _) | (with_reducible refine Kd.C_drewN ?_ _) | (with_reducible refine Kd.C_drew ?_))); (case side2 => exact HC0_2.out); rintro e w166 ⟨rfl, hb⟩; refine ⟨_, rfl, ?_⟩; have n0_ := Aside0.mk (blk_below (g := gb122) (o := .cells #[.int .i64 a0_0, .int .i64 a0_1, .slice A0_2 l0_2.length c0_2] 29 (0, 0)) (by (with_reducible repeat (first | refine blk_drewN ?_ _ | refine blk_drew ?_ | refine blk_alloc ?_ _)); exact BK122.out) hb); have n1_ := Aside0.mk (blk_below (g := gb123) (o := .cells #[.int .i64 a1_0, .int .i64 a1_1, .int .i64 a1_2, .int .i64 a1_3, .int .i64 a1_4, .int .i64 a1_5] 33 (0, 0)) (by (with_reducible repeat (first | refine blk_drewN ?_ _ | refine blk_drew ?_ | refine blk_alloc ?_ _)); exact BK123.out) hb); have n2_ := Aside0.mk (blk_below (g := gb124) (o := .cells #[.int .i64 0, .int .i64 0, .slice none 0 0] 29 (0, 0)) (by (with_reducible repeat (first | refine blk_drewN ?_ _ | refine blk_drew ?_ | refine blk_alloc ?_ _)); exact BK124.out) hb); have n3_ := Aside0.mk (below_step (by repeat (first | (with_reducible first | exact HB.out | apply below_alloc | apply pw_below_drewN | apply below_drew1 | refine below_set ?_ GE122.out | refine below_set ?_ GE123.out | refine below_set ?_ GE124.out) | exact HB.out)) hb); clear BK122; clear BK123; clear BK124; clear HB; have BK122 := n0_; have BK123 := n1_; have BK124 := n2_; have HB := n3_; clear n0_ n1_ n2_ n3_; (try clear hb); (try clear hb2); (try clear hk); (try clear hi); have hnb167 := NB124_123.out; have hnc167 := NB123_124.out; have hcz168_0 : w166.cell? ⟨gb124, 0, none⟩ = some (.int .i64 0) := (blk_cell BK124.out 0).trans rfl; have hcz168_1 : w166.cell? ⟨gb124, 1, none⟩ = some (.int .i64 0) := (blk_cell BK124.out 1).trans rfl; have hcz168_2 : w166.cell? ⟨gb124, 2, none⟩ = some (.slice none 0 0) := (blk_cell BK124.out 2).trans rfl; have hfz168_0 := blk_frozen BK124.out 0; have hfz168_1 := blk_frozen BK124.out 1; have hfz168_2 := blk_frozen BK124.out 2))
    refine bodyPost_ret (results_ct rfl _ _ gb124 29 #[.int .i64 0, .int .i64 0, .slice none 0 0] (0, 0) _ rfl (by (with_reducible repeat (first | refine blk_drewN ?_ _ | refine blk_drew ?_ | refine blk_alloc ?_ _)); refine blk_put (cs := #[.int .i64 0, .int .i64 0, .slice none 0 0]) ?_ 2 _ rfl; (with_reducible repeat (first | refine blk_drewN ?_ _ | refine blk_drew ?_ | refine blk_alloc ?_ _)); refine blk_put (cs := #[.int .i64 0, .int .i64 0, .slice none 0 0]) ?_ 1 _ rfl; (with_reducible repeat (first | refine blk_drewN ?_ _ | refine blk_drew ?_ | refine blk_alloc ?_ _)); refine blk_put (cs := #[.int .i64 0, .int .i64 0, .slice none 0 0]) ?_ 0 _ rfl; (with_reducible repeat (first | refine blk_drewN ?_ _ | refine blk_drew ?_ | refine blk_alloc ?_ _)); exact BK124.out) Try.underlying29 rfl (by kernel_rfl)) rfl ?_
    exact ⟨_, by first | rfl | (simp [errW_none, errW_some] <;> rfl) | (simp [*, errW_none, errW_some] <;> rfl), by first | exact Kd.R_nil _ _ _ _ _ | exact Kd.N_nil _ _ _ _ _ | exact Kd.V_nil _ _ _ _ _ | exact Kd.Q_nil _ _ _ _ _ | exact Kd.S_nil _ _ _ _ _, by repeat (first | (with_reducible first | exact HB.out | apply below_alloc | apply pw_below_drewN | apply below_drew1 | refine below_set ?_ GE122.out | refine below_set ?_ GE123.out | refine below_set ?_ GE124.out) | exact HB.out)⟩

end Go.Proofs.Ythagabjcoknogaa.PImageFits
