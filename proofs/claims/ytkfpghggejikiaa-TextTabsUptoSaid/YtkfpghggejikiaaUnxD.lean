-- Printed by wip/pr.py (our own turn of the kit's printer) out of the translation; Lean checks it.
import Derived.Test.YtkfpghggejikiaaPx0
import Derived.Test.YtkfpghggejikiaaPx3
import Derived.Test.YtkfpghggejikiaaPx7
import Derived.Test.YtkfpghggejikiaaPx8
import Derived.Test.YtkfpghggejikiaaPx11
namespace Go.Proofs.Ytkfpghggejikiaa.P
open Go.RowKit Go.Proofs.YtkfpghggejikiaaW.PrintWords Go.Proofs.YtkfpghggejikiaaW.PrintLast Go.Proofs.YtkfpghggejikiaaW.PrintMore
attribute [local go_sem] max2_int min2_int max_two min_two max_three min_three max_four min_four   -- for this text's walks alone
set_option linter.unusedVariables false
set_option linter.unusedSimpArgs false

/-! ### tinselref15_Unexpand: function 19 -/
mutual
def tinselref15_Unexpand.l0 : Nat → List Int → Bool → List (List Int) → Bool → Int → Int → Option (List Int × Int)
  | 0, _, _, _, _, _, _ => none
  | k + 1, x1, x2, x8, x9, x26, x27 => if x27 < x26 then (if 0 ≤ x27 then (if x27 < (x8.length : Int) then (tinselref15_Unexpand.l1 k x1 x2 x8 x9 x27 (rd_L1 x8 x27) (([] : List Int)) 0 0 x26 x27) else (none)) else (none)) else ((tinselref15_Whole.f k x8 x9).bind fun t391 => (some (t391, 0)))
def tinselref15_Unexpand.l1 : Nat → List Int → Bool → List (List Int) → Bool → Int → List Int → List Int → Int → Int → Int → Int → Option (List Int × Int)
  | 0, _, _, _, _, _, _, _, _, _, _, _ => none
  | k + 1, x1, x2, x8, x9, x10, x11, x12, x13, x14, x26, x27 => if x14 < (x11.length : Int) then (tinselref15_Unexpand.l2 k x1 x2 x8 x9 x10 x11 x12 x13 x14 x13 x14 x26 x27) else (if 0 ≤ x10 then (if x10 < (x8.length : Int) then (tinselref15_Unexpand.l0 k x1 x2 (x8.set (x10 : Int).toNat x12) x9 x26 (wrap64 (x27 + 1))) else (none)) else (none))
def tinselref15_Unexpand.j3 : Nat → List Int → Bool → List (List Int) → Bool → Int → List Int → List Int → Int → Int → Int → Int → Int → Int → Option (List Int × Int)
  | 0, _, _, _, _, _, _, _, _, _, _, _, _, _ => none
  | k + 1, x1, x2, x8, x9, x10, x11, x12, x13, x14, x15, x16, x26, x27 => if x14 > x16 then (if x16 > 0 then (if x2 = true then (if (wrap64 (x14 - x16)) = 1 then (if 0 ≤ x16 then (if x16 < (x11.length : Int) then (tinselref15_Unexpand.j4 k x1 x2 x8 x9 x10 x11 x12 x13 x14 x15 x16 x26 x27 ((rd x11 x16) == 32)) else (none)) else (none)) else (tinselref15_Unexpand.j4 k x1 x2 x8 x9 x10 x11 x12 x13 x14 x15 x16 x26 x27 false)) else (tinselref15_Unexpand.j4 k x1 x2 x8 x9 x10 x11 x12 x13 x14 x15 x16 x26 x27 true)) else (tinselref15_Unexpand.j4 k x1 x2 x8 x9 x10 x11 x12 x13 x14 x15 x16 x26 x27 false)) else (if 0 ≤ x14 then (if x14 < (x11.length : Int) then (if x12.length < 140737488355328 then ((tinselref15_step.f k x13 (rd x11 x14) x1).bind fun t421 => (tinselref15_Unexpand.l1 k x1 x2 x8 x9 x10 x11 (x12 ++ [rd x11 x14]) t421 (wrap64 (x14 + 1)) x26 x27)) else (none)) else (none)) else (none))
def tinselref15_Unexpand.j4 : Nat → List Int → Bool → List (List Int) → Bool → Int → List Int → List Int → Int → Int → Int → Int → Int → Int → Bool → Option (List Int × Int)
  | 0, _, _, _, _, _, _, _, _, _, _, _, _, _, _ => none
  | k + 1, x1, x2, x8, x9, x10, x11, x12, x13, x14, x15, x16, x26, x27, x87 => if x87 = true then (if 0 ≤ x16 then (if x16 ≤ x14 then (if x14 ≤ (x11.length : Int) then (if x12.length + ((x11.take (x14 : Int).toNat).drop (x16 : Int).toNat).length < 140737488355328 then (tinselref15_Unexpand.l1 k x1 x2 x8 x9 x10 x11 (x12 ++ ((x11.take (x14 : Int).toNat).drop (x16 : Int).toNat)) x13 x14 x26 x27) else (none)) else (none)) else (none)) else (none)) else ((tinselref15_run.f k x15 x13 x1).bind fun t410 => (if x12.length + t410.length < 140737488355328 then (tinselref15_Unexpand.l1 k x1 x2 x8 x9 x10 x11 (x12 ++ t410) x13 x14 x26 x27) else (none)))
def tinselref15_Unexpand.l2 : Nat → List Int → Bool → List (List Int) → Bool → Int → List Int → List Int → Int → Int → Int → Int → Int → Int → Option (List Int × Int)
  | 0, _, _, _, _, _, _, _, _, _, _, _, _, _ => none
  | k + 1, x1, x2, x8, x9, x10, x11, x12, x13, x14, x15, x16, x26, x27 => if x14 < (x11.length : Int) then (if 0 ≤ x14 then (if (rd x11 x14) = 32 then ((tinselref15_step.f k x13 (rd x11 x14) x1).bind fun t401 => (tinselref15_Unexpand.l2 k x1 x2 x8 x9 x10 x11 x12 t401 (wrap64 (x14 + 1)) x15 x16 x26 x27)) else (if (rd x11 x14) = 9 then ((tinselref15_step.f k x13 (rd x11 x14) x1).bind fun t404 => (tinselref15_Unexpand.l2 k x1 x2 x8 x9 x10 x11 x12 t404 (wrap64 (x14 + 1)) x15 x16 x26 x27)) else (tinselref15_Unexpand.j3 k x1 x2 x8 x9 x10 x11 x12 x13 x14 x15 x16 x26 x27))) else (none)) else (tinselref15_Unexpand.j3 k x1 x2 x8 x9 x10 x11 x12 x13 x14 x15 x16 x26 x27)
end
def tinselref15_Unexpand.f (k : Nat) (l0 : List Int) (l1 : List Int) (a2 : Bool) : Option (List Int × Int) := (tinselref15_Stops.f k l1).bind fun t386 => (if t386 = true then ((tinselref15_Lines.f k l0).bind fun bt387 => (tinselref15_Unexpand.l0 k l1 a2 bt387.1 bt387.2 (bt387.1.length : Int) 0)) else (some (([] : List Int), 22)))
theorem tinselref15_Unexpand.mono_l : ∀ k, (∀ y0 y1 y2 y3 y4 y5, LeO (tinselref15_Unexpand.l0 k y0 y1 y2 y3 y4 y5) (tinselref15_Unexpand.l0 (k + 1) y0 y1 y2 y3 y4 y5)) ∧ (∀ y0 y1 y2 y3 y4 y5 y6 y7 y8 y9 y10, LeO (tinselref15_Unexpand.l1 k y0 y1 y2 y3 y4 y5 y6 y7 y8 y9 y10) (tinselref15_Unexpand.l1 (k + 1) y0 y1 y2 y3 y4 y5 y6 y7 y8 y9 y10)) ∧ (∀ y0 y1 y2 y3 y4 y5 y6 y7 y8 y9 y10 y11 y12, LeO (tinselref15_Unexpand.j3 k y0 y1 y2 y3 y4 y5 y6 y7 y8 y9 y10 y11 y12) (tinselref15_Unexpand.j3 (k + 1) y0 y1 y2 y3 y4 y5 y6 y7 y8 y9 y10 y11 y12)) ∧ (∀ y0 y1 y2 y3 y4 y5 y6 y7 y8 y9 y10 y11 y12 y13, LeO (tinselref15_Unexpand.j4 k y0 y1 y2 y3 y4 y5 y6 y7 y8 y9 y10 y11 y12 y13) (tinselref15_Unexpand.j4 (k + 1) y0 y1 y2 y3 y4 y5 y6 y7 y8 y9 y10 y11 y12 y13)) ∧ (∀ y0 y1 y2 y3 y4 y5 y6 y7 y8 y9 y10 y11 y12, LeO (tinselref15_Unexpand.l2 k y0 y1 y2 y3 y4 y5 y6 y7 y8 y9 y10 y11 y12) (tinselref15_Unexpand.l2 (k + 1) y0 y1 y2 y3 y4 y5 y6 y7 y8 y9 y10 y11 y12))
  | 0 => ⟨fun _ _ _ _ _ _ r h => by simp [tinselref15_Unexpand.l0] at h, fun _ _ _ _ _ _ _ _ _ _ _ r h => by simp [tinselref15_Unexpand.l1] at h, fun _ _ _ _ _ _ _ _ _ _ _ _ _ r h => by simp [tinselref15_Unexpand.j3] at h, fun _ _ _ _ _ _ _ _ _ _ _ _ _ _ r h => by simp [tinselref15_Unexpand.j4] at h, fun _ _ _ _ _ _ _ _ _ _ _ _ _ r h => by simp [tinselref15_Unexpand.l2] at h⟩
  | k + 1 => by
    obtain ⟨ih0, ih1, ih2, ih3, ih4⟩ := tinselref15_Unexpand.mono_l k
    refine ⟨?_, ?_, ?_, ?_, ?_⟩
    · intro y0 y1 y2 y3 y4 y5
      unfold tinselref15_Unexpand.l0
      repeat' first
      | (with_reducible exact ih0 _ _ _ _ _ _)
      | (with_reducible exact ih1 _ _ _ _ _ _ _ _ _ _ _)
      | (with_reducible exact ih2 _ _ _ _ _ _ _ _ _ _ _ _ _)
      | (with_reducible exact ih3 _ _ _ _ _ _ _ _ _ _ _ _ _ _)
      | (with_reducible exact ih4 _ _ _ _ _ _ _ _ _ _ _ _ _)
      | (with_reducible exact tinselref15_Lines.mono _ _)
      | (with_reducible exact tinselref15_Stops.mono _ _)
      | (with_reducible exact tinselref15_Whole.mono _ _ _)
      | (with_reducible exact tinselref15_run.mono _ _ _ _)
      | (with_reducible exact tinselref15_step.mono _ _ _ _)
      | (with_reducible exact LeO.refl _)
      | (with_reducible exact LeO.none _)
      | (with_reducible refine LeO.ite ?_ ?_)
      | (with_reducible refine LeO.bind ?_ (fun _ => ?_))
      | exact ih0 _ _ _ _ _ _
      | exact ih1 _ _ _ _ _ _ _ _ _ _ _
      | exact ih2 _ _ _ _ _ _ _ _ _ _ _ _ _
      | exact ih3 _ _ _ _ _ _ _ _ _ _ _ _ _ _
      | exact ih4 _ _ _ _ _ _ _ _ _ _ _ _ _
      | exact tinselref15_Lines.mono _ _
      | exact tinselref15_Stops.mono _ _
      | exact tinselref15_Whole.mono _ _ _
      | exact tinselref15_run.mono _ _ _ _
      | exact tinselref15_step.mono _ _ _ _
      | exact LeO.none _
      | refine LeO.ite ?_ ?_
      | refine LeO.bind ?_ (fun _ => ?_)
    · intro y0 y1 y2 y3 y4 y5 y6 y7 y8 y9 y10
      unfold tinselref15_Unexpand.l1
      repeat' first
      | (with_reducible exact ih0 _ _ _ _ _ _)
      | (with_reducible exact ih1 _ _ _ _ _ _ _ _ _ _ _)
      | (with_reducible exact ih2 _ _ _ _ _ _ _ _ _ _ _ _ _)
      | (with_reducible exact ih3 _ _ _ _ _ _ _ _ _ _ _ _ _ _)
      | (with_reducible exact ih4 _ _ _ _ _ _ _ _ _ _ _ _ _)
      | (with_reducible exact tinselref15_Lines.mono _ _)
      | (with_reducible exact tinselref15_Stops.mono _ _)
      | (with_reducible exact tinselref15_Whole.mono _ _ _)
      | (with_reducible exact tinselref15_run.mono _ _ _ _)
      | (with_reducible exact tinselref15_step.mono _ _ _ _)
      | (with_reducible exact LeO.refl _)
      | (with_reducible exact LeO.none _)
      | (with_reducible refine LeO.ite ?_ ?_)
      | (with_reducible refine LeO.bind ?_ (fun _ => ?_))
      | exact ih0 _ _ _ _ _ _
      | exact ih1 _ _ _ _ _ _ _ _ _ _ _
      | exact ih2 _ _ _ _ _ _ _ _ _ _ _ _ _
      | exact ih3 _ _ _ _ _ _ _ _ _ _ _ _ _ _
      | exact ih4 _ _ _ _ _ _ _ _ _ _ _ _ _
      | exact tinselref15_Lines.mono _ _
      | exact tinselref15_Stops.mono _ _
      | exact tinselref15_Whole.mono _ _ _
      | exact tinselref15_run.mono _ _ _ _
      | exact tinselref15_step.mono _ _ _ _
      | exact LeO.none _
      | refine LeO.ite ?_ ?_
      | refine LeO.bind ?_ (fun _ => ?_)
    · intro y0 y1 y2 y3 y4 y5 y6 y7 y8 y9 y10 y11 y12
      unfold tinselref15_Unexpand.j3
      repeat' first
      | (with_reducible exact ih0 _ _ _ _ _ _)
      | (with_reducible exact ih1 _ _ _ _ _ _ _ _ _ _ _)
      | (with_reducible exact ih2 _ _ _ _ _ _ _ _ _ _ _ _ _)
      | (with_reducible exact ih3 _ _ _ _ _ _ _ _ _ _ _ _ _ _)
      | (with_reducible exact ih4 _ _ _ _ _ _ _ _ _ _ _ _ _)
      | (with_reducible exact tinselref15_Lines.mono _ _)
      | (with_reducible exact tinselref15_Stops.mono _ _)
      | (with_reducible exact tinselref15_Whole.mono _ _ _)
      | (with_reducible exact tinselref15_run.mono _ _ _ _)
      | (with_reducible exact tinselref15_step.mono _ _ _ _)
      | (with_reducible exact LeO.refl _)
      | (with_reducible exact LeO.none _)
      | (with_reducible refine LeO.ite ?_ ?_)
      | (with_reducible refine LeO.bind ?_ (fun _ => ?_))
      | exact ih0 _ _ _ _ _ _
      | exact ih1 _ _ _ _ _ _ _ _ _ _ _
      | exact ih2 _ _ _ _ _ _ _ _ _ _ _ _ _
      | exact ih3 _ _ _ _ _ _ _ _ _ _ _ _ _ _
      | exact ih4 _ _ _ _ _ _ _ _ _ _ _ _ _
      | exact tinselref15_Lines.mono _ _
      | exact tinselref15_Stops.mono _ _
      | exact tinselref15_Whole.mono _ _ _
      | exact tinselref15_run.mono _ _ _ _
      | exact tinselref15_step.mono _ _ _ _
      | exact LeO.none _
      | refine LeO.ite ?_ ?_
      | refine LeO.bind ?_ (fun _ => ?_)
    · intro y0 y1 y2 y3 y4 y5 y6 y7 y8 y9 y10 y11 y12 y13
      unfold tinselref15_Unexpand.j4
      repeat' first
      | (with_reducible exact ih0 _ _ _ _ _ _)
      | (with_reducible exact ih1 _ _ _ _ _ _ _ _ _ _ _)
      | (with_reducible exact ih2 _ _ _ _ _ _ _ _ _ _ _ _ _)
      | (with_reducible exact ih3 _ _ _ _ _ _ _ _ _ _ _ _ _ _)
      | (with_reducible exact ih4 _ _ _ _ _ _ _ _ _ _ _ _ _)
      | (with_reducible exact tinselref15_Lines.mono _ _)
      | (with_reducible exact tinselref15_Stops.mono _ _)
      | (with_reducible exact tinselref15_Whole.mono _ _ _)
      | (with_reducible exact tinselref15_run.mono _ _ _ _)
      | (with_reducible exact tinselref15_step.mono _ _ _ _)
      | (with_reducible exact LeO.refl _)
      | (with_reducible exact LeO.none _)
      | (with_reducible refine LeO.ite ?_ ?_)
      | (with_reducible refine LeO.bind ?_ (fun _ => ?_))
      | exact ih0 _ _ _ _ _ _
      | exact ih1 _ _ _ _ _ _ _ _ _ _ _
      | exact ih2 _ _ _ _ _ _ _ _ _ _ _ _ _
      | exact ih3 _ _ _ _ _ _ _ _ _ _ _ _ _ _
      | exact ih4 _ _ _ _ _ _ _ _ _ _ _ _ _
      | exact tinselref15_Lines.mono _ _
      | exact tinselref15_Stops.mono _ _
      | exact tinselref15_Whole.mono _ _ _
      | exact tinselref15_run.mono _ _ _ _
      | exact tinselref15_step.mono _ _ _ _
      | exact LeO.none _
      | refine LeO.ite ?_ ?_
      | refine LeO.bind ?_ (fun _ => ?_)
    · intro y0 y1 y2 y3 y4 y5 y6 y7 y8 y9 y10 y11 y12
      unfold tinselref15_Unexpand.l2
      repeat' first
      | (with_reducible exact ih0 _ _ _ _ _ _)
      | (with_reducible exact ih1 _ _ _ _ _ _ _ _ _ _ _)
      | (with_reducible exact ih2 _ _ _ _ _ _ _ _ _ _ _ _ _)
      | (with_reducible exact ih3 _ _ _ _ _ _ _ _ _ _ _ _ _ _)
      | (with_reducible exact ih4 _ _ _ _ _ _ _ _ _ _ _ _ _)
      | (with_reducible exact tinselref15_Lines.mono _ _)
      | (with_reducible exact tinselref15_Stops.mono _ _)
      | (with_reducible exact tinselref15_Whole.mono _ _ _)
      | (with_reducible exact tinselref15_run.mono _ _ _ _)
      | (with_reducible exact tinselref15_step.mono _ _ _ _)
      | (with_reducible exact LeO.refl _)
      | (with_reducible exact LeO.none _)
      | (with_reducible refine LeO.ite ?_ ?_)
      | (with_reducible refine LeO.bind ?_ (fun _ => ?_))
      | exact ih0 _ _ _ _ _ _
      | exact ih1 _ _ _ _ _ _ _ _ _ _ _
      | exact ih2 _ _ _ _ _ _ _ _ _ _ _ _ _
      | exact ih3 _ _ _ _ _ _ _ _ _ _ _ _ _ _
      | exact ih4 _ _ _ _ _ _ _ _ _ _ _ _ _
      | exact tinselref15_Lines.mono _ _
      | exact tinselref15_Stops.mono _ _
      | exact tinselref15_Whole.mono _ _ _
      | exact tinselref15_run.mono _ _ _ _
      | exact tinselref15_step.mono _ _ _ _
      | exact LeO.none _
      | refine LeO.ite ?_ ?_
      | refine LeO.bind ?_ (fun _ => ?_)
theorem tinselref15_Unexpand.mono : ∀ a0 a1 a2 k, LeO (tinselref15_Unexpand.f k a0 a1 a2) (tinselref15_Unexpand.f (k + 1) a0 a1 a2) := by
  intro a0 a1 a2 k
  obtain ⟨ih0, ih1, ih2, ih3, ih4⟩ := tinselref15_Unexpand.mono_l k
  unfold tinselref15_Unexpand.f
  repeat' first
      | (with_reducible exact ih0 _ _ _ _ _ _)
      | (with_reducible exact ih1 _ _ _ _ _ _ _ _ _ _ _)
      | (with_reducible exact ih2 _ _ _ _ _ _ _ _ _ _ _ _ _)
      | (with_reducible exact ih3 _ _ _ _ _ _ _ _ _ _ _ _ _ _)
      | (with_reducible exact ih4 _ _ _ _ _ _ _ _ _ _ _ _ _)
      | (with_reducible exact tinselref15_Lines.mono _ _)
      | (with_reducible exact tinselref15_Stops.mono _ _)
      | (with_reducible exact tinselref15_Whole.mono _ _ _)
      | (with_reducible exact tinselref15_run.mono _ _ _ _)
      | (with_reducible exact tinselref15_step.mono _ _ _ _)
      | (with_reducible exact LeO.refl _)
      | (with_reducible exact LeO.none _)
      | (with_reducible refine LeO.ite ?_ ?_)
      | (with_reducible refine LeO.bind ?_ (fun _ => ?_))
      | exact ih0 _ _ _ _ _ _
      | exact ih1 _ _ _ _ _ _ _ _ _ _ _
      | exact ih2 _ _ _ _ _ _ _ _ _ _ _ _ _
      | exact ih3 _ _ _ _ _ _ _ _ _ _ _ _ _ _
      | exact ih4 _ _ _ _ _ _ _ _ _ _ _ _ _
      | exact tinselref15_Lines.mono _ _
      | exact tinselref15_Stops.mono _ _
      | exact tinselref15_Whole.mono _ _ _
      | exact tinselref15_run.mono _ _ _ _
      | exact tinselref15_step.mono _ _ _ _
      | exact LeO.none _
      | refine LeO.ite ?_ ?_
      | refine LeO.bind ?_ (fun _ => ?_)
end Go.Proofs.Ytkfpghggejikiaa.P
