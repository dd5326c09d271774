-- Printed by wip/pr.py (our own turn of the kit's printer) out of the translation; Lean checks it.
import Derived.Test.YtajafgcndalieaaDoorPx0
import Derived.Test.YtajafgcndalieaaDoorPx7
import Derived.Test.YtajafgcndalieaaDoorPx8
import Derived.Test.YtajafgcndalieaaDoorPx12
import Derived.Test.YtajafgcndalieaaDoorHStr
namespace Go.Proofs.YtajafgcndalieaaDoor.P
open Go.RowKit Go.Proofs.YtajafgcndalieaaDoorW.PrintWords Go.Proofs.YtajafgcndalieaaDoorW.PrintLast Go.Proofs.YtajafgcndalieaaDoorW.PrintMore
attribute [local go_sem] max2_int min2_int max_two min_two max_three min_three max_four min_four   -- for this text's walks alone
set_option linter.unusedVariables false
set_option linter.unusedSimpArgs false

/-! ### tinselref03_last: function 40 -/
def tinselref03_last.l0 : Nat → ByteArray → Int → Int → Option (Int)
  | 0, _, _, _ => none
  | k + 1, x0, x3, x4 => if x4 < (x0.size : Int) then (if 0 ≤ x4 then (if (bt x0 x4) = 47 then (tinselref03_last.l0 k x0 (wrap64 (x4 + 1)) (wrap64 (x4 + 1))) else (tinselref03_last.l0 k x0 x3 (wrap64 (x4 + 1)))) else (none)) else (some x3)
def tinselref03_last.f (k : Nat) (a0 : ByteArray) : Option (Int) := tinselref03_last.l0 k a0 0 0
theorem tinselref03_last.mono_l : ∀ k, (∀ y0 y1 y2, LeO (tinselref03_last.l0 k y0 y1 y2) (tinselref03_last.l0 (k + 1) y0 y1 y2))
  | 0 => fun _ _ _ r h => by simp [tinselref03_last.l0] at h
  | k + 1 => by
    have ih0 := tinselref03_last.mono_l k
    · intro y0 y1 y2
      unfold tinselref03_last.l0
      repeat' first
      | (with_reducible exact ih0 _ _ _)
      | (with_reducible exact LeO.refl _)
      | (with_reducible exact LeO.none _)
      | (with_reducible refine LeO.ite ?_ ?_)
      | (with_reducible refine LeO.bind ?_ (fun _ => ?_))
      | exact ih0 _ _ _
      | exact LeO.none _
      | refine LeO.ite ?_ ?_
      | refine LeO.bind ?_ (fun _ => ?_)
theorem tinselref03_last.mono : ∀ a0 k, LeO (tinselref03_last.f k a0) (tinselref03_last.f (k + 1) a0) := by
  intro a0 k
  have ih0 := tinselref03_last.mono_l k
  unfold tinselref03_last.f
  repeat' first
      | (with_reducible exact ih0 _ _ _)
      | (with_reducible exact LeO.refl _)
      | (with_reducible exact LeO.none _)
      | (with_reducible refine LeO.ite ?_ ?_)
      | (with_reducible refine LeO.bind ?_ (fun _ => ?_))
      | exact ih0 _ _ _
      | exact LeO.none _
      | refine LeO.ite ?_ ?_
      | refine LeO.bind ?_ (fun _ => ?_)
set_option maxHeartbeats 8000000 in
set_option maxRecDepth 100000 in
theorem tinselref03_last.calls (k : Nat) (a0 : ByteArray) (r : Int) (w : World) (h : tinselref03_last.f k a0 = some r) :
    Calls Tryd.prog 40 #[.string a0] w fun e w' => e = .returned (.int .i64 r) ∧ Drawn0 w w' := by
  have H : (tinselref03_last.l0 k a0 0 0) = some r := h
  clear h
  have H' := Aside0.mk H
  clear H
  go_enter Tryd.func40, Tryd.ntmps40
  go_wp2
  go_loopg [3, 4] k (fun kq v3 v4 w' => ∃ (x3_1 : Int) (x4_1 : Int), v3 = .int .i64 x3_1 ∧ v4 = .int .i64 x4_1 ∧ Aside0 (tinselref03_last.l0 kq a0 x3_1 x4_1 = some r) ∧ Aside0 (kq ≤ k) ∧ Drawn0 w w')
  case atStart => exact ⟨(0), (0), (by first | rfl | (simp; done) | (simp [*]; done)), (by first | rfl | (simp; done) | (simp [*]; done)), H', ⟨Nat.le_refl _⟩, by repeat (first | exact Drawn0.refl _ | apply Drawn0.step)⟩
  case round =>
    clear H'
    obtain ⟨x3_1, x4_1, rfl, rfl, HA, HK1, ⟨m1, rfl⟩⟩ := hrel
    cases gk with
    | zero => exact absurd HA.out (by simp [tinselref03_last.l0])
    | succ k1 =>
      have H := HA.out
      clear HA
      simp only [tinselref03_last.l0] at H
      by_cases c2 : x4_1 < (a0.size : Int)
      · rw [if_pos c2] at H
        have c2b0 : decide (x4_1 < (a0.size : Int)) = true := decide_eq_true c2
        clear c2
        by_cases c3 : 0 ≤ x4_1
        · rw [if_pos c3] at H
          have c3b0 : decide (0 ≤ x4_1) = true := decide_eq_true c3
          clear c3
          by_cases c5 : (bt a0 x4_1) = 47
          · rw [if_pos c5] at H
            have c5b0 : ((bt a0 x4_1) == 47) = true := beq_iff_eq.mpr c5
            have c5b1 : ((bt a0 x4_1) != 47) = false := bne_eq_false_iff_eq.mpr c5
            clear c5
            have H' := Aside0.mk H
            clear H
            have p4 : 0 ≤ (x4_1 : Int) := of_decide_eq_true (by first | (with_reducible assumption) | assumption)
            have q4 : x4_1 < (a0.size : Int) := of_decide_eq_true (by first | (with_reducible assumption) | assumption)
            have hx4 := bt_at a0 x4_1
            replace p4 := eq_true p4
            replace q4 := eq_true q4
            go_wp2
            go_roundg k1
            case measure => have := HK1.out; omega
            case rel => exact ⟨(wrap64 (x4_1 + 1)), (wrap64 (x4_1 + 1)), (by first | rfl | (simp; done) | (simp [*]; done)), (by first | rfl | (simp; done) | (simp [*]; done)), H', ⟨by have := HK1.out; omega⟩, by repeat (first | exact Drawn0.refl _ | apply Drawn0.step)⟩
          · rw [if_neg c5] at H
            have c5b0 : ((bt a0 x4_1) == 47) = false := beq_eq_false_iff_ne.mpr c5
            have c5b1 : ((bt a0 x4_1) != 47) = true := bne_iff_ne.mpr c5
            have H' := Aside0.mk H
            clear H
            have p4 : 0 ≤ (x4_1 : Int) := of_decide_eq_true (by first | (with_reducible assumption) | assumption)
            have q4 : x4_1 < (a0.size : Int) := of_decide_eq_true (by first | (with_reducible assumption) | assumption)
            have hx4 := bt_at a0 x4_1
            replace p4 := eq_true p4
            replace q4 := eq_true q4
            go_wp2
            go_roundg k1
            case measure => have := HK1.out; omega
            case rel => exact ⟨(x3_1), (wrap64 (x4_1 + 1)), (by first | rfl | (simp; done) | (simp [*]; done)), (by first | rfl | (simp; done) | (simp [*]; done)), H', ⟨by have := HK1.out; omega⟩, by repeat (first | exact Drawn0.refl _ | apply Drawn0.step)⟩
        · rw [if_neg c3] at H
          exact absurd H (by simp)
      · rw [if_neg c2] at H
        have c2b0 : decide (x4_1 < (a0.size : Int)) = false := decide_eq_false c2
        clear c2
        obtain rfl := Option.some.inj H
        go_wp2
        go_ret
        exact ⟨by first | rfl | (simp; done) | (simp [*]; done), by repeat (first | exact Drawn0.refl _ | apply Drawn0.step)⟩

/-! ### tinselref03_Base: function 23 -/
def tinselref03_Base.f (k : Nat) (a0 : ByteArray) (a1 : ByteArray) : Option (ByteArray) := if a0.toList = ([] : List UInt8) then (some (⟨#[46]⟩ : ByteArray)) else ((tinselref03_bare.f k a0).bind fun t314 => (if t314.toList = ([] : List UInt8) then (some (⟨#[47]⟩ : ByteArray)) else ((tinselref03_last.f k t314).bind fun t315 => (if 0 ≤ t315 then (if t315 ≤ (t314.size : Int) then (if (a1.size : Int) < ((t314.extract (t315 : Int).toNat t314.size).size : Int) then (if 0 ≤ (wrap64 (((t314.extract (t315 : Int).toNat t314.size).size : Int) - (a1.size : Int))) then (if (wrap64 (((t314.extract (t315 : Int).toNat t314.size).size : Int) - (a1.size : Int))) ≤ ((t314.extract (t315 : Int).toNat t314.size).size : Int) then (if ((t314.extract (t315 : Int).toNat t314.size).extract ((wrap64 (((t314.extract (t315 : Int).toNat t314.size).size : Int) - (a1.size : Int))) : Int).toNat (t314.extract (t315 : Int).toNat t314.size).size).toList = a1.toList then (some ((t314.extract (t315 : Int).toNat t314.size).extract 0 ((wrap64 (((t314.extract (t315 : Int).toNat t314.size).size : Int) - (a1.size : Int))) : Int).toNat)) else (some (t314.extract (t315 : Int).toNat t314.size))) else (none)) else (none)) else (some (t314.extract (t315 : Int).toNat t314.size))) else (none)) else (none)))))
theorem tinselref03_Base.mono : ∀ a0 a1 k, LeO (tinselref03_Base.f k a0 a1) (tinselref03_Base.f (k + 1) a0 a1) := by
  intro a0 a1 k
  unfold tinselref03_Base.f
  repeat' first
      | (with_reducible exact tinselref03_bare.mono _ _)
      | (with_reducible exact tinselref03_last.mono _ _)
      | (with_reducible exact LeO.refl _)
      | (with_reducible exact LeO.none _)
      | (with_reducible refine LeO.ite ?_ ?_)
      | (with_reducible refine LeO.bind ?_ (fun _ => ?_))
      | exact tinselref03_bare.mono _ _
      | exact tinselref03_last.mono _ _
      | exact LeO.none _
      | refine LeO.ite ?_ ?_
      | refine LeO.bind ?_ (fun _ => ?_)
set_option maxHeartbeats 8000000 in
set_option maxRecDepth 100000 in
theorem tinselref03_Base.calls (k : Nat) (a0 : ByteArray) (a1 : ByteArray) (r : ByteArray) (w : World) (h : tinselref03_Base.f k a0 a1 = some r) :
    Calls Tryd.prog 23 #[.string a0, .string a1] w fun e w' => e = .returned (.string r) ∧ Drawn0 w w' := by
  have H : (if a0.toList = ([] : List UInt8) then (some (⟨#[46]⟩ : ByteArray)) else ((tinselref03_bare.f k a0).bind fun t314 => (if t314.toList = ([] : List UInt8) then (some (⟨#[47]⟩ : ByteArray)) else ((tinselref03_last.f k t314).bind fun t315 => (if 0 ≤ t315 then (if t315 ≤ (t314.size : Int) then (if (a1.size : Int) < ((t314.extract (t315 : Int).toNat t314.size).size : Int) then (if 0 ≤ (wrap64 (((t314.extract (t315 : Int).toNat t314.size).size : Int) - (a1.size : Int))) then (if (wrap64 (((t314.extract (t315 : Int).toNat t314.size).size : Int) - (a1.size : Int))) ≤ ((t314.extract (t315 : Int).toNat t314.size).size : Int) then (if ((t314.extract (t315 : Int).toNat t314.size).extract ((wrap64 (((t314.extract (t315 : Int).toNat t314.size).size : Int) - (a1.size : Int))) : Int).toNat (t314.extract (t315 : Int).toNat t314.size).size).toList = a1.toList then (some ((t314.extract (t315 : Int).toNat t314.size).extract 0 ((wrap64 (((t314.extract (t315 : Int).toNat t314.size).size : Int) - (a1.size : Int))) : Int).toNat)) else (some (t314.extract (t315 : Int).toNat t314.size))) else (none)) else (none)) else (some (t314.extract (t315 : Int).toNat t314.size))) else (none)) else (none)))))) = some r := h
  clear h
  by_cases c3 : a0.toList = ([] : List UInt8)
  · rw [if_pos c3] at H
    have c3b0 : (a0.toList == ([] : List UInt8)) = true := beq_iff_eq.mpr c3
    have c3b1 : (a0.toList != ([] : List UInt8)) = false := bne_eq_false_iff_eq.mpr c3
    clear c3
    obtain rfl := Option.some.inj H
    go_enter Tryd.func23, Tryd.ntmps23
    go_wp2
    go_ret
    exact ⟨by first | rfl | (simp; done) | (simp [*]; done), by repeat (first | exact Drawn0.refl _ | apply Drawn0.step)⟩
  · rw [if_neg c3] at H
    have c3b0 : (a0.toList == ([] : List UInt8)) = false := beq_eq_false_iff_ne.mpr c3
    have c3b1 : (a0.toList != ([] : List UInt8)) = true := bne_iff_ne.mpr c3
    replace H := Option.bind_eq_some_iff.mp H
    obtain ⟨t314, A40, H⟩ := H
    replace H : (if t314.toList = ([] : List UInt8) then (some (⟨#[47]⟩ : ByteArray)) else ((tinselref03_last.f k t314).bind fun t315 => (if 0 ≤ t315 then (if t315 ≤ (t314.size : Int) then (if (a1.size : Int) < ((t314.extract (t315 : Int).toNat t314.size).size : Int) then (if 0 ≤ (wrap64 (((t314.extract (t315 : Int).toNat t314.size).size : Int) - (a1.size : Int))) then (if (wrap64 (((t314.extract (t315 : Int).toNat t314.size).size : Int) - (a1.size : Int))) ≤ ((t314.extract (t315 : Int).toNat t314.size).size : Int) then (if ((t314.extract (t315 : Int).toNat t314.size).extract ((wrap64 (((t314.extract (t315 : Int).toNat t314.size).size : Int) - (a1.size : Int))) : Int).toNat (t314.extract (t315 : Int).toNat t314.size).size).toList = a1.toList then (some ((t314.extract (t315 : Int).toNat t314.size).extract 0 ((wrap64 (((t314.extract (t315 : Int).toNat t314.size).size : Int) - (a1.size : Int))) : Int).toNat)) else (some (t314.extract (t315 : Int).toNat t314.size))) else (none)) else (none)) else (some (t314.extract (t315 : Int).toNat t314.size))) else (none)) else (none)))) = some r := H
    have A4 := Aside0.mk A40
    clear A40
    by_cases c5 : t314.toList = ([] : List UInt8)
    · rw [if_pos c5] at H
      have c5b0 : (t314.toList == ([] : List UInt8)) = true := beq_iff_eq.mpr c5
      have c5b1 : (t314.toList != ([] : List UInt8)) = false := bne_eq_false_iff_eq.mpr c5
      clear c5
      obtain rfl := Option.some.inj H
      go_enter Tryd.func23, Tryd.ntmps23
      go_wp2_with (first | ((with_reducible refine gate_callee (f := 39) rfl ?_); refine goesL_ (some 9) rfl rfl Tryd.func39 (by kernel_rfl) rfl #[.string a0] rfl (by (try simp only [List.map_toArray, List.map_cons, List.map_nil]); first | done | rfl | (simp only [List.length_drop, List.length_take]; rfl)) ?_; (with_reducible refine (tinselref03_bare.calls k a0 t314 _ A4.out).mono ?_); rintro e w' ⟨rfl, ⟨nd, rfl⟩⟩; refine ⟨_, rfl, ?_⟩))
      go_ret
      exact ⟨by first | rfl | (simp; done) | (simp [*]; done), by repeat (first | exact Drawn0.refl _ | apply Drawn0.step)⟩
    · rw [if_neg c5] at H
      have c5b0 : (t314.toList == ([] : List UInt8)) = false := beq_eq_false_iff_ne.mpr c5
      have c5b1 : (t314.toList != ([] : List UInt8)) = true := bne_iff_ne.mpr c5
      replace H := Option.bind_eq_some_iff.mp H
      obtain ⟨t315, A60, H⟩ := H
      replace H : (if 0 ≤ t315 then (if t315 ≤ (t314.size : Int) then (if (a1.size : Int) < ((t314.extract (t315 : Int).toNat t314.size).size : Int) then (if 0 ≤ (wrap64 (((t314.extract (t315 : Int).toNat t314.size).size : Int) - (a1.size : Int))) then (if (wrap64 (((t314.extract (t315 : Int).toNat t314.size).size : Int) - (a1.size : Int))) ≤ ((t314.extract (t315 : Int).toNat t314.size).size : Int) then (if ((t314.extract (t315 : Int).toNat t314.size).extract ((wrap64 (((t314.extract (t315 : Int).toNat t314.size).size : Int) - (a1.size : Int))) : Int).toNat (t314.extract (t315 : Int).toNat t314.size).size).toList = a1.toList then (some ((t314.extract (t315 : Int).toNat t314.size).extract 0 ((wrap64 (((t314.extract (t315 : Int).toNat t314.size).size : Int) - (a1.size : Int))) : Int).toNat)) else (some (t314.extract (t315 : Int).toNat t314.size))) else (none)) else (none)) else (some (t314.extract (t315 : Int).toNat t314.size))) else (none)) else (none)) = some r := H
      have A6 := Aside0.mk A60
      clear A60
      by_cases c7 : 0 ≤ t315
      · rw [if_pos c7] at H
        have c7b0 := eq_true c7
        have c7b1 : decide (0 ≤ t315) = true := decide_eq_true c7
        clear c7
        by_cases c8 : t315 ≤ (t314.size : Int)
        · rw [if_pos c8] at H
          have c8b0 := eq_true c8
          have c8b1 : decide (t315 ≤ (t314.size : Int)) = true := decide_eq_true c8
          clear c8
          obtain ⟨ux, hux⟩ : ∃ ux_ : ByteArray, (t314.extract (t315 : Int).toNat t314.size) = ux_ := ⟨_, rfl⟩
          rw [hux] at H
          by_cases c9 : (a1.size : Int) < (ux.size : Int)
          · rw [if_pos c9] at H
            have c9b0 : decide ((a1.size : Int) < (ux.size : Int)) = true := decide_eq_true c9
            have c9b1 : decide (a1.size < ux.size) = true := decide_eq_true (Int.ofNat_lt.mp c9)
            clear c9
            obtain ⟨ji10, hji10⟩ : ∃ j_ : Int, (wrap64 ((ux.size : Int) - (a1.size : Int))) = j_ := ⟨_, rfl⟩
            replace H : (if 0 ≤ (ji10) then (if (ji10) ≤ (ux.size : Int) then (if (ux.extract ((ji10) : Int).toNat ux.size).toList = a1.toList then (some (ux.extract 0 ((ji10) : Int).toNat)) else (some ux)) else (none)) else (none)) = some r := by first | (rw [hji10] at H; exact H) | (simp only [hji10] at H ⊢; exact H)
            (try rw [hji10] at A4)
            (try rw [hji10] at A6)
            have hji10w : (IntKind.i64.wrap ((ux.size : Int) - (a1.size : Int))) = ji10 := (i64_w _).trans hji10
            by_cases c11 : 0 ≤ (ji10)
            · rw [if_pos c11] at H
              have c11b0 := eq_true c11
              have c11b1 : decide (0 ≤ (ji10)) = true := decide_eq_true c11
              clear c11
              by_cases c12 : (ji10) ≤ (ux.size : Int)
              · rw [if_pos c12] at H
                have c12b0 := eq_true c12
                have c12b1 : decide ((ji10) ≤ (ux.size : Int)) = true := decide_eq_true c12
                clear c12
                by_cases c13 : (ux.extract ((ji10) : Int).toNat ux.size).toList = a1.toList
                · rw [if_pos c13] at H
                  have c13b0 : ((ux.extract ((ji10) : Int).toNat ux.size).toList == a1.toList) = true := beq_iff_eq.mpr c13
                  have c13b1 : ((ux.extract ((ji10) : Int).toNat ux.size).toList != a1.toList) = false := bne_eq_false_iff_eq.mpr c13
                  clear c13
                  have c14b0 := eq_true (of_decide_eq_true (by first | (with_reducible assumption) | assumption) : 0 ≤ (ji10))
                  have c15b0 := eq_true (of_decide_eq_true (by first | (with_reducible assumption) | assumption) : (ji10) ≤ (ux.size : Int))
                  obtain rfl := Option.some.inj H
                  go_enter Tryd.func23, Tryd.ntmps23
                  go_wp2_with (first | ((with_reducible refine gate_callee (f := 39) rfl ?_); refine goesL_ (some 9) rfl rfl Tryd.func39 (by kernel_rfl) rfl #[.string a0] rfl (by (try simp only [List.map_toArray, List.map_cons, List.map_nil]); first | done | rfl | (simp only [List.length_drop, List.length_take]; rfl)) ?_; (with_reducible refine (tinselref03_bare.calls k a0 t314 _ A4.out).mono ?_); rintro e w' ⟨rfl, ⟨nd, rfl⟩⟩; refine ⟨_, rfl, ?_⟩) | ((with_reducible refine gate_callee (f := 40) rfl ?_); refine goesL_ (some 14) rfl rfl Tryd.func40 (by kernel_rfl) rfl #[.string t314] rfl (by (try simp only [List.map_toArray, List.map_cons, List.map_nil]); first | done | rfl | (simp only [List.length_drop, List.length_take]; rfl)) ?_; (with_reducible refine (tinselref03_last.calls k t314 t315 _ A6.out).mono ?_); rintro e w' ⟨rfl, ⟨nd, rfl⟩⟩; refine ⟨_, rfl, ?_⟩))
                  go_ret
                  exact ⟨by first | rfl | (simp; done) | (simp only [← hji10] <;> (first | rfl | simp)) | (simp [*]; done), by repeat (first | exact Drawn0.refl _ | apply Drawn0.step)⟩
                · rw [if_neg c13] at H
                  have c13b0 : ((ux.extract ((ji10) : Int).toNat ux.size).toList == a1.toList) = false := beq_eq_false_iff_ne.mpr c13
                  have c13b1 : ((ux.extract ((ji10) : Int).toNat ux.size).toList != a1.toList) = true := bne_iff_ne.mpr c13
                  obtain rfl := Option.some.inj H
                  go_enter Tryd.func23, Tryd.ntmps23
                  go_wp2_with (first | ((with_reducible refine gate_callee (f := 39) rfl ?_); refine goesL_ (some 9) rfl rfl Tryd.func39 (by kernel_rfl) rfl #[.string a0] rfl (by (try simp only [List.map_toArray, List.map_cons, List.map_nil]); first | done | rfl | (simp only [List.length_drop, List.length_take]; rfl)) ?_; (with_reducible refine (tinselref03_bare.calls k a0 t314 _ A4.out).mono ?_); rintro e w' ⟨rfl, ⟨nd, rfl⟩⟩; refine ⟨_, rfl, ?_⟩) | ((with_reducible refine gate_callee (f := 40) rfl ?_); refine goesL_ (some 14) rfl rfl Tryd.func40 (by kernel_rfl) rfl #[.string t314] rfl (by (try simp only [List.map_toArray, List.map_cons, List.map_nil]); first | done | rfl | (simp only [List.length_drop, List.length_take]; rfl)) ?_; (with_reducible refine (tinselref03_last.calls k t314 t315 _ A6.out).mono ?_); rintro e w' ⟨rfl, ⟨nd, rfl⟩⟩; refine ⟨_, rfl, ?_⟩))
                  go_ret
                  exact ⟨by first | rfl | (simp; done) | (simp only [← hji10] <;> (first | rfl | simp)) | (simp [*]; done), by repeat (first | exact Drawn0.refl _ | apply Drawn0.step)⟩
              · rw [if_neg c12] at H
                exact absurd H (by simp)
            · rw [if_neg c11] at H
              exact absurd H (by simp)
          · rw [if_neg c9] at H
            have c9b0 : decide ((a1.size : Int) < (ux.size : Int)) = false := decide_eq_false c9
            have c9b1 : decide (a1.size < ux.size) = false := decide_eq_false (fun h => c9 (Int.ofNat_lt.mpr h))
            clear c9
            obtain rfl := Option.some.inj H
            go_enter Tryd.func23, Tryd.ntmps23
            go_wp2_with (first | ((with_reducible refine gate_callee (f := 39) rfl ?_); refine goesL_ (some 9) rfl rfl Tryd.func39 (by kernel_rfl) rfl #[.string a0] rfl (by (try simp only [List.map_toArray, List.map_cons, List.map_nil]); first | done | rfl | (simp only [List.length_drop, List.length_take]; rfl)) ?_; (with_reducible refine (tinselref03_bare.calls k a0 t314 _ A4.out).mono ?_); rintro e w' ⟨rfl, ⟨nd, rfl⟩⟩; refine ⟨_, rfl, ?_⟩) | ((with_reducible refine gate_callee (f := 40) rfl ?_); refine goesL_ (some 14) rfl rfl Tryd.func40 (by kernel_rfl) rfl #[.string t314] rfl (by (try simp only [List.map_toArray, List.map_cons, List.map_nil]); first | done | rfl | (simp only [List.length_drop, List.length_take]; rfl)) ?_; (with_reducible refine (tinselref03_last.calls k t314 t315 _ A6.out).mono ?_); rintro e w' ⟨rfl, ⟨nd, rfl⟩⟩; refine ⟨_, rfl, ?_⟩))
            go_ret
            exact ⟨by first | rfl | (simp; done) | (simp [*]; done), by repeat (first | exact Drawn0.refl _ | apply Drawn0.step)⟩
        · rw [if_neg c8] at H
          exact absurd H (by simp)
      · rw [if_neg c7] at H
        exact absurd H (by simp)

/-! ### path_Dir: function 24 -/
def path_Dir.j0 : Nat → ByteArray → Option (ByteArray)
  | 0, _ => none
  | k + 1, x0 => (strings_LastIndexByte.f k x0 47).bind fun t319 => (if t319 < 0 then (some (⟨#[46]⟩ : ByteArray)) else (if 0 ≤ t319 then (if t319 ≤ (x0.size : Int) then ((strings_TrimRight.f (x0.extract 0 (t319 : Int).toNat) (⟨#[47]⟩ : ByteArray)).bind fun t320 => (if t320.toList = ([] : List UInt8) then (some (⟨#[47]⟩ : ByteArray)) else (some t320))) else (none)) else (none)))
def path_Dir.f (k : Nat) (a0 : ByteArray) : Option (ByteArray) := (path_kind.f a0).bind fun t316 => (if t316 = 1 then (some (⟨#[47]⟩ : ByteArray)) else (if t316 = 0 then ((strings_TrimRight.f a0 (⟨#[47]⟩ : ByteArray)).bind fun t317 => (path_Dir.j0 k t317)) else ((strings_TrimRight.f a0 (⟨#[47]⟩ : ByteArray)).bind fun t318 => (path_Dir.j0 k t318))))
theorem path_Dir.mono_l : ∀ k, (∀ y0, LeO (path_Dir.j0 k y0) (path_Dir.j0 (k + 1) y0))
  | 0 => fun _ r h => by simp [path_Dir.j0] at h
  | k + 1 => by
    have ih0 := path_Dir.mono_l k
    · intro y0
      unfold path_Dir.j0
      repeat' first
      | (with_reducible exact ih0 _)
      | (with_reducible exact strings_LastIndexByte.mono _ _ _)
      | (with_reducible exact LeO.refl _)
      | (with_reducible exact LeO.none _)
      | (with_reducible refine LeO.ite ?_ ?_)
      | (with_reducible refine LeO.bind ?_ (fun _ => ?_))
      | exact ih0 _
      | exact strings_LastIndexByte.mono _ _ _
      | exact LeO.none _
      | refine LeO.ite ?_ ?_
      | refine LeO.bind ?_ (fun _ => ?_)
theorem path_Dir.mono : ∀ a0 k, LeO (path_Dir.f k a0) (path_Dir.f (k + 1) a0) := by
  intro a0 k
  have ih0 := path_Dir.mono_l k
  unfold path_Dir.f
  repeat' first
      | (with_reducible exact ih0 _)
      | (with_reducible exact strings_LastIndexByte.mono _ _ _)
      | (with_reducible exact LeO.refl _)
      | (with_reducible exact LeO.none _)
      | (with_reducible refine LeO.ite ?_ ?_)
      | (with_reducible refine LeO.bind ?_ (fun _ => ?_))
      | exact ih0 _
      | exact strings_LastIndexByte.mono _ _ _
      | exact LeO.none _
      | refine LeO.ite ?_ ?_
      | refine LeO.bind ?_ (fun _ => ?_)
set_option maxHeartbeats 8000000 in
set_option maxRecDepth 100000 in
theorem path_Dir.calls (k : Nat) (a0 : ByteArray) (r : ByteArray) (w : World) (h : path_Dir.f k a0 = some r) :
    Calls Tryd.prog 24 #[.string a0] w fun e w' => e = .returned (.string r) ∧ Drawn0 w w' := by
  have H : ((path_kind.f a0).bind fun t316 => (if t316 = 1 then (some (⟨#[47]⟩ : ByteArray)) else (if t316 = 0 then ((strings_TrimRight.f a0 (⟨#[47]⟩ : ByteArray)).bind fun t317 => (path_Dir.j0 k t317)) else ((strings_TrimRight.f a0 (⟨#[47]⟩ : ByteArray)).bind fun t318 => (path_Dir.j0 k t318))))) = some r := h
  clear h
  replace H := Option.bind_eq_some_iff.mp H
  obtain ⟨t316, A20, H⟩ := H
  replace H : (if t316 = 1 then (some (⟨#[47]⟩ : ByteArray)) else (if t316 = 0 then ((strings_TrimRight.f a0 (⟨#[47]⟩ : ByteArray)).bind fun t317 => (path_Dir.j0 k t317)) else ((strings_TrimRight.f a0 (⟨#[47]⟩ : ByteArray)).bind fun t318 => (path_Dir.j0 k t318)))) = some r := H
  have A2 := Aside0.mk A20
  clear A20
  have HC3 := Aside0.mk H
  clear H
  go_enter Tryd.func24, Tryd.ntmps24
  go_upto_block 0 with (first | ((with_reducible refine gate_callee (f := 35) rfl ?_); refine goesL_ (some 5) rfl rfl Tryd.func35 (by kernel_rfl) rfl #[.string a0] rfl (by (try simp only [List.map_toArray, List.map_cons, List.map_nil]); first | done | rfl | (simp only [List.length_drop, List.length_take]; rfl)) ?_; (with_reducible refine (path_kind.calls a0 t316 _ A2.out).mono ?_); rintro e w' ⟨rfl, ⟨nd, rfl⟩⟩; refine ⟨_, rfl, ?_⟩))
  (try simp only [Act.put, List.setIfInBounds_toArray, List.set_cons_zero, List.set_cons_succ])
  go_cut [0] (fun v0 wc => ∃ (kq : Nat) (x0_2 : ByteArray), v0 = .string x0_2 ∧ Aside0 (path_Dir.j0 kq x0_2 = some r) ∧ Aside0 (kq ≤ k) ∧ Drawn0 w wc)
  case first =>
    have H := HC3.out
    clear HC3
    by_cases c4 : t316 = 1
    · rw [if_pos c4] at H
      have c4b0 : (t316 == 1) = true := beq_iff_eq.mpr c4
      have c4b1 : (t316 != 1) = false := bne_eq_false_iff_eq.mpr c4
      clear c4
      (first | rw [c4b0] | (simp only [i64_w, i32_w]; rw [c4b0]) | skip)
      obtain rfl := Option.some.inj H
      go_wp2
      go_ret
      exact ⟨by first | rfl | (simp; done) | (simp [*]; done), by repeat (first | exact Drawn0.refl _ | apply Drawn0.step)⟩
    · rw [if_neg c4] at H
      have c4b0 : (t316 == 1) = false := beq_eq_false_iff_ne.mpr c4
      have c4b1 : (t316 != 1) = true := bne_iff_ne.mpr c4
      (first | rw [c4b0] | (simp only [i64_w, i32_w]; rw [c4b0]) | skip)
      by_cases c5 : t316 = 0
      · rw [if_pos c5] at H
        have c5b0 : (t316 == 0) = true := beq_iff_eq.mpr c5
        have c5b1 : (t316 != 0) = false := bne_eq_false_iff_eq.mpr c5
        clear c5
        replace H := Option.bind_eq_some_iff.mp H
        obtain ⟨t317, A60, H⟩ := H
        replace H : (path_Dir.j0 k t317) = some r := H
        have A6 := Aside0.mk A60
        clear A60
        have H' := Aside0.mk H
        clear H
        go_wp2_with (first | ((with_reducible refine gate_callee (f := 36) rfl ?_); refine goesL_ (some 11) rfl rfl Tryd.func36 (by kernel_rfl) rfl #[.string a0, .string (⟨#[47]⟩ : ByteArray)] rfl (by (try simp only [List.map_toArray, List.map_cons, List.map_nil]); first | done | rfl | (simp only [List.length_drop, List.length_take]; rfl)) ?_; (with_reducible refine (strings_TrimRight.calls a0 (⟨#[47]⟩ : ByteArray) t317 _ A6.out).mono ?_); rintro e w' ⟨rfl, ⟨nd, rfl⟩⟩; refine ⟨_, rfl, ?_⟩))
        go_meet
        case rel => exact ⟨_, (t317), (by first | rfl | (simp; done) | (simp [*]; done)), H', ⟨by first | omega | exact Nat.le_refl _⟩, by repeat (first | exact Drawn0.refl _ | apply Drawn0.step)⟩
      · rw [if_neg c5] at H
        have c5b0 : (t316 == 0) = false := beq_eq_false_iff_ne.mpr c5
        have c5b1 : (t316 != 0) = true := bne_iff_ne.mpr c5
        replace H := Option.bind_eq_some_iff.mp H
        obtain ⟨t318, A70, H⟩ := H
        replace H : (path_Dir.j0 k t318) = some r := H
        have A7 := Aside0.mk A70
        clear A70
        have H' := Aside0.mk H
        clear H
        go_wp2_with (first | ((with_reducible refine gate_callee (f := 36) rfl ?_); refine goesL_ (some 11) rfl rfl Tryd.func36 (by kernel_rfl) rfl #[.string a0, .string (⟨#[47]⟩ : ByteArray)] rfl (by (try simp only [List.map_toArray, List.map_cons, List.map_nil]); first | done | rfl | (simp only [List.length_drop, List.length_take]; rfl)) ?_; (with_reducible refine (strings_TrimRight.calls a0 (⟨#[47]⟩ : ByteArray) t318 _ A7.out).mono ?_); rintro e w' ⟨rfl, ⟨nd, rfl⟩⟩; refine ⟨_, rfl, ?_⟩))
        go_meet
        case rel => exact ⟨_, (t318), (by first | rfl | (simp; done) | (simp [*]; done)), H', ⟨by first | omega | exact Nat.le_refl _⟩, by repeat (first | exact Drawn0.refl _ | apply Drawn0.step)⟩
  case rest =>
    clear HC3
    try clear c2
    try clear p2
    try clear c3
    try clear c4
    try clear c4b0
    try clear c4b1
    try clear c5
    try clear c5b0
    try clear c5b1
    obtain ⟨kq, x0_2, rfl, HA, HJ2, ⟨mc2, rfl⟩⟩ := hcut
    cases kq with
    | zero => exact absurd HA.out (by simp [path_Dir.j0])
    | succ kj2 =>
      have H := HA.out
      clear HA
      simp only [path_Dir.j0] at H
      replace H := Option.bind_eq_some_iff.mp H
      obtain ⟨t319, A80, H⟩ := H
      replace H : (if t319 < 0 then (some (⟨#[46]⟩ : ByteArray)) else (if 0 ≤ t319 then (if t319 ≤ (x0_2.size : Int) then ((strings_TrimRight.f (x0_2.extract 0 (t319 : Int).toNat) (⟨#[47]⟩ : ByteArray)).bind fun t320 => (if t320.toList = ([] : List UInt8) then (some (⟨#[47]⟩ : ByteArray)) else (some t320))) else (none)) else (none))) = some r := H
      have A8 := Aside0.mk A80
      clear A80
      by_cases c9 : t319 < 0
      · rw [if_pos c9] at H
        have c9b0 : decide (t319 < 0) = true := decide_eq_true c9
        clear c9
        obtain rfl := Option.some.inj H
        go_wp2_with (first | ((with_reducible refine gate_callee (f := 37) rfl ?_); refine goesL_ (some 13) rfl rfl Tryd.func37 (by kernel_rfl) rfl #[.string x0_2, .int .u8 47] rfl (by (try simp only [List.map_toArray, List.map_cons, List.map_nil]); first | done | rfl | (simp only [List.length_drop, List.length_take]; rfl)) ?_; (with_reducible refine (strings_LastIndexByte.calls kj2 x0_2 47 t319 _ A8.out).mono ?_); rintro e w' ⟨rfl, ⟨nd, rfl⟩⟩; refine ⟨_, rfl, ?_⟩))
        go_ret
        exact ⟨by first | rfl | (simp; done) | (simp [*]; done), by repeat (first | exact Drawn0.refl _ | apply Drawn0.step)⟩
      · rw [if_neg c9] at H
        have c9b0 : decide (t319 < 0) = false := decide_eq_false c9
        clear c9
        by_cases c10 : 0 ≤ t319
        · rw [if_pos c10] at H
          have c10b0 := eq_true c10
          have c10b1 : decide (0 ≤ t319) = true := decide_eq_true c10
          clear c10
          by_cases c11 : t319 ≤ (x0_2.size : Int)
          · rw [if_pos c11] at H
            have c11b0 := eq_true c11
            have c11b1 : decide (t319 ≤ (x0_2.size : Int)) = true := decide_eq_true c11
            clear c11
            replace H := Option.bind_eq_some_iff.mp H
            obtain ⟨t320, A120, H⟩ := H
            replace H : (if t320.toList = ([] : List UInt8) then (some (⟨#[47]⟩ : ByteArray)) else (some t320)) = some r := H
            have A12 := Aside0.mk A120
            clear A120
            by_cases c13 : t320.toList = ([] : List UInt8)
            · rw [if_pos c13] at H
              have c13b0 : (t320.toList == ([] : List UInt8)) = true := beq_iff_eq.mpr c13
              have c13b1 : (t320.toList != ([] : List UInt8)) = false := bne_eq_false_iff_eq.mpr c13
              clear c13
              obtain rfl := Option.some.inj H
              go_wp2_with (first | ((with_reducible refine gate_callee (f := 37) rfl ?_); refine goesL_ (some 13) rfl rfl Tryd.func37 (by kernel_rfl) rfl #[.string x0_2, .int .u8 47] rfl (by (try simp only [List.map_toArray, List.map_cons, List.map_nil]); first | done | rfl | (simp only [List.length_drop, List.length_take]; rfl)) ?_; (with_reducible refine (strings_LastIndexByte.calls kj2 x0_2 47 t319 _ A8.out).mono ?_); rintro e w' ⟨rfl, ⟨nd, rfl⟩⟩; refine ⟨_, rfl, ?_⟩) | ((with_reducible refine gate_callee (f := 36) rfl ?_); refine goesL_ (some 19) rfl rfl Tryd.func36 (by kernel_rfl) rfl #[.string (x0_2.extract 0 (t319 : Int).toNat), .string (⟨#[47]⟩ : ByteArray)] rfl (by (try simp only [List.map_toArray, List.map_cons, List.map_nil]); first | done | rfl | (simp only [List.length_drop, List.length_take]; rfl)) ?_; (with_reducible refine (strings_TrimRight.calls (x0_2.extract 0 (t319 : Int).toNat) (⟨#[47]⟩ : ByteArray) t320 _ A12.out).mono ?_); rintro e w' ⟨rfl, ⟨nd, rfl⟩⟩; refine ⟨_, rfl, ?_⟩))
              go_ret
              exact ⟨by first | rfl | (simp; done) | (simp [*]; done), by repeat (first | exact Drawn0.refl _ | apply Drawn0.step)⟩
            · rw [if_neg c13] at H
              have c13b0 : (t320.toList == ([] : List UInt8)) = false := beq_eq_false_iff_ne.mpr c13
              have c13b1 : (t320.toList != ([] : List UInt8)) = true := bne_iff_ne.mpr c13
              obtain rfl := Option.some.inj H
              go_wp2_with (first | ((with_reducible refine gate_callee (f := 37) rfl ?_); refine goesL_ (some 13) rfl rfl Tryd.func37 (by kernel_rfl) rfl #[.string x0_2, .int .u8 47] rfl (by (try simp only [List.map_toArray, List.map_cons, List.map_nil]); first | done | rfl | (simp only [List.length_drop, List.length_take]; rfl)) ?_; (with_reducible refine (strings_LastIndexByte.calls kj2 x0_2 47 t319 _ A8.out).mono ?_); rintro e w' ⟨rfl, ⟨nd, rfl⟩⟩; refine ⟨_, rfl, ?_⟩) | ((with_reducible refine gate_callee (f := 36) rfl ?_); refine goesL_ (some 19) rfl rfl Tryd.func36 (by kernel_rfl) rfl #[.string (x0_2.extract 0 (t319 : Int).toNat), .string (⟨#[47]⟩ : ByteArray)] rfl (by (try simp only [List.map_toArray, List.map_cons, List.map_nil]); first | done | rfl | (simp only [List.length_drop, List.length_take]; rfl)) ?_; (with_reducible refine (strings_TrimRight.calls (x0_2.extract 0 (t319 : Int).toNat) (⟨#[47]⟩ : ByteArray) t320 _ A12.out).mono ?_); rintro e w' ⟨rfl, ⟨nd, rfl⟩⟩; refine ⟨_, rfl, ?_⟩))
              go_ret
              exact ⟨by first | rfl | (simp; done) | (simp [*]; done), by repeat (first | exact Drawn0.refl _ | apply Drawn0.step)⟩
          · rw [if_neg c11] at H
            exact absurd H (by simp)
        · rw [if_neg c10] at H
          exact absurd H (by simp)

/-! ### tinselref03_Dir: function 25 -/
def tinselref03_Dir.f (k : Nat) (a0 : ByteArray) : Option (ByteArray) := if a0.toList = ([] : List UInt8) then (some (⟨#[46]⟩ : ByteArray)) else ((tinselref03_bare.f k a0).bind fun t321 => (if t321.toList = ([] : List UInt8) then (some (⟨#[47]⟩ : ByteArray)) else ((tinselref03_last.f k t321).bind fun t322 => (if t322 = 0 then (some (⟨#[46]⟩ : ByteArray)) else (if 0 ≤ t322 then (if t322 ≤ (t321.size : Int) then ((tinselref03_bare.f k (t321.extract 0 (t322 : Int).toNat)).bind fun t323 => (if t323.toList = ([] : List UInt8) then (some (⟨#[47]⟩ : ByteArray)) else (some t323))) else (none)) else (none))))))
theorem tinselref03_Dir.mono : ∀ a0 k, LeO (tinselref03_Dir.f k a0) (tinselref03_Dir.f (k + 1) a0) := by
  intro a0 k
  unfold tinselref03_Dir.f
  repeat' first
      | (with_reducible exact tinselref03_bare.mono _ _)
      | (with_reducible exact tinselref03_last.mono _ _)
      | (with_reducible exact LeO.refl _)
      | (with_reducible exact LeO.none _)
      | (with_reducible refine LeO.ite ?_ ?_)
      | (with_reducible refine LeO.bind ?_ (fun _ => ?_))
      | exact tinselref03_bare.mono _ _
      | exact tinselref03_last.mono _ _
      | exact LeO.none _
      | refine LeO.ite ?_ ?_
      | refine LeO.bind ?_ (fun _ => ?_)
set_option maxHeartbeats 8000000 in
set_option maxRecDepth 100000 in
theorem tinselref03_Dir.calls (k : Nat) (a0 : ByteArray) (r : ByteArray) (w : World) (h : tinselref03_Dir.f k a0 = some r) :
    Calls Tryd.prog 25 #[.string a0] w fun e w' => e = .returned (.string r) ∧ Drawn0 w w' := by
  have H : (if a0.toList = ([] : List UInt8) then (some (⟨#[46]⟩ : ByteArray)) else ((tinselref03_bare.f k a0).bind fun t321 => (if t321.toList = ([] : List UInt8) then (some (⟨#[47]⟩ : ByteArray)) else ((tinselref03_last.f k t321).bind fun t322 => (if t322 = 0 then (some (⟨#[46]⟩ : ByteArray)) else (if 0 ≤ t322 then (if t322 ≤ (t321.size : Int) then ((tinselref03_bare.f k (t321.extract 0 (t322 : Int).toNat)).bind fun t323 => (if t323.toList = ([] : List UInt8) then (some (⟨#[47]⟩ : ByteArray)) else (some t323))) else (none)) else (none))))))) = some r := h
  clear h
  by_cases c2 : a0.toList = ([] : List UInt8)
  · rw [if_pos c2] at H
    have c2b0 : (a0.toList == ([] : List UInt8)) = true := beq_iff_eq.mpr c2
    have c2b1 : (a0.toList != ([] : List UInt8)) = false := bne_eq_false_iff_eq.mpr c2
    clear c2
    obtain rfl := Option.some.inj H
    go_enter Tryd.func25, Tryd.ntmps25
    go_wp2
    go_ret
    exact ⟨by first | rfl | (simp; done) | (simp [*]; done), by repeat (first | exact Drawn0.refl _ | apply Drawn0.step)⟩
  · rw [if_neg c2] at H
    have c2b0 : (a0.toList == ([] : List UInt8)) = false := beq_eq_false_iff_ne.mpr c2
    have c2b1 : (a0.toList != ([] : List UInt8)) = true := bne_iff_ne.mpr c2
    replace H := Option.bind_eq_some_iff.mp H
    obtain ⟨t321, A30, H⟩ := H
    replace H : (if t321.toList = ([] : List UInt8) then (some (⟨#[47]⟩ : ByteArray)) else ((tinselref03_last.f k t321).bind fun t322 => (if t322 = 0 then (some (⟨#[46]⟩ : ByteArray)) else (if 0 ≤ t322 then (if t322 ≤ (t321.size : Int) then ((tinselref03_bare.f k (t321.extract 0 (t322 : Int).toNat)).bind fun t323 => (if t323.toList = ([] : List UInt8) then (some (⟨#[47]⟩ : ByteArray)) else (some t323))) else (none)) else (none))))) = some r := H
    have A3 := Aside0.mk A30
    clear A30
    by_cases c4 : t321.toList = ([] : List UInt8)
    · rw [if_pos c4] at H
      have c4b0 : (t321.toList == ([] : List UInt8)) = true := beq_iff_eq.mpr c4
      have c4b1 : (t321.toList != ([] : List UInt8)) = false := bne_eq_false_iff_eq.mpr c4
      clear c4
      obtain rfl := Option.some.inj H
      go_enter Tryd.func25, Tryd.ntmps25
      go_wp2_with (first | ((with_reducible refine gate_callee (f := 39) rfl ?_); refine goesL_ (some 8) rfl rfl Tryd.func39 (by kernel_rfl) rfl #[.string a0] rfl (by (try simp only [List.map_toArray, List.map_cons, List.map_nil]); first | done | rfl | (simp only [List.length_drop, List.length_take]; rfl)) ?_; (with_reducible refine (tinselref03_bare.calls k a0 t321 _ A3.out).mono ?_); rintro e w' ⟨rfl, ⟨nd, rfl⟩⟩; refine ⟨_, rfl, ?_⟩))
      go_ret
      exact ⟨by first | rfl | (simp; done) | (simp [*]; done), by repeat (first | exact Drawn0.refl _ | apply Drawn0.step)⟩
    · rw [if_neg c4] at H
      have c4b0 : (t321.toList == ([] : List UInt8)) = false := beq_eq_false_iff_ne.mpr c4
      have c4b1 : (t321.toList != ([] : List UInt8)) = true := bne_iff_ne.mpr c4
      replace H := Option.bind_eq_some_iff.mp H
      obtain ⟨t322, A50, H⟩ := H
      replace H : (if t322 = 0 then (some (⟨#[46]⟩ : ByteArray)) else (if 0 ≤ t322 then (if t322 ≤ (t321.size : Int) then ((tinselref03_bare.f k (t321.extract 0 (t322 : Int).toNat)).bind fun t323 => (if t323.toList = ([] : List UInt8) then (some (⟨#[47]⟩ : ByteArray)) else (some t323))) else (none)) else (none))) = some r := H
      have A5 := Aside0.mk A50
      clear A50
      by_cases c6 : t322 = 0
      · rw [if_pos c6] at H
        have c6b0 : (t322 == 0) = true := beq_iff_eq.mpr c6
        have c6b1 : (t322 != 0) = false := bne_eq_false_iff_eq.mpr c6
        clear c6
        obtain rfl := Option.some.inj H
        go_enter Tryd.func25, Tryd.ntmps25
        go_wp2_with (first | ((with_reducible refine gate_callee (f := 39) rfl ?_); refine goesL_ (some 8) rfl rfl Tryd.func39 (by kernel_rfl) rfl #[.string a0] rfl (by (try simp only [List.map_toArray, List.map_cons, List.map_nil]); first | done | rfl | (simp only [List.length_drop, List.length_take]; rfl)) ?_; (with_reducible refine (tinselref03_bare.calls k a0 t321 _ A3.out).mono ?_); rintro e w' ⟨rfl, ⟨nd, rfl⟩⟩; refine ⟨_, rfl, ?_⟩) | ((with_reducible refine gate_callee (f := 40) rfl ?_); refine goesL_ (some 12) rfl rfl Tryd.func40 (by kernel_rfl) rfl #[.string t321] rfl (by (try simp only [List.map_toArray, List.map_cons, List.map_nil]); first | done | rfl | (simp only [List.length_drop, List.length_take]; rfl)) ?_; (with_reducible refine (tinselref03_last.calls k t321 t322 _ A5.out).mono ?_); rintro e w' ⟨rfl, ⟨nd, rfl⟩⟩; refine ⟨_, rfl, ?_⟩))
        go_ret
        exact ⟨by first | rfl | (simp; done) | (simp [*]; done), by repeat (first | exact Drawn0.refl _ | apply Drawn0.step)⟩
      · rw [if_neg c6] at H
        have c6b0 : (t322 == 0) = false := beq_eq_false_iff_ne.mpr c6
        have c6b1 : (t322 != 0) = true := bne_iff_ne.mpr c6
        by_cases c7 : 0 ≤ t322
        · rw [if_pos c7] at H
          have c7b0 := eq_true c7
          have c7b1 : decide (0 ≤ t322) = true := decide_eq_true c7
          clear c7
          by_cases c8 : t322 ≤ (t321.size : Int)
          · rw [if_pos c8] at H
            have c8b0 := eq_true c8
            have c8b1 : decide (t322 ≤ (t321.size : Int)) = true := decide_eq_true c8
            clear c8
            replace H := Option.bind_eq_some_iff.mp H
            obtain ⟨t323, A90, H⟩ := H
            replace H : (if t323.toList = ([] : List UInt8) then (some (⟨#[47]⟩ : ByteArray)) else (some t323)) = some r := H
            have A9 := Aside0.mk A90
            clear A90
            by_cases c10 : t323.toList = ([] : List UInt8)
            · rw [if_pos c10] at H
              have c10b0 : (t323.toList == ([] : List UInt8)) = true := beq_iff_eq.mpr c10
              have c10b1 : (t323.toList != ([] : List UInt8)) = false := bne_eq_false_iff_eq.mpr c10
              clear c10
              obtain rfl := Option.some.inj H
              go_enter Tryd.func25, Tryd.ntmps25
              go_wp2_with (first | ((with_reducible refine gate_callee (f := 39) rfl ?_); refine goesL_ (some 8) rfl rfl Tryd.func39 (by kernel_rfl) rfl #[.string a0] rfl (by (try simp only [List.map_toArray, List.map_cons, List.map_nil]); first | done | rfl | (simp only [List.length_drop, List.length_take]; rfl)) ?_; (with_reducible refine (tinselref03_bare.calls k a0 t321 _ A3.out).mono ?_); rintro e w' ⟨rfl, ⟨nd, rfl⟩⟩; refine ⟨_, rfl, ?_⟩) | ((with_reducible refine gate_callee (f := 40) rfl ?_); refine goesL_ (some 12) rfl rfl Tryd.func40 (by kernel_rfl) rfl #[.string t321] rfl (by (try simp only [List.map_toArray, List.map_cons, List.map_nil]); first | done | rfl | (simp only [List.length_drop, List.length_take]; rfl)) ?_; (with_reducible refine (tinselref03_last.calls k t321 t322 _ A5.out).mono ?_); rintro e w' ⟨rfl, ⟨nd, rfl⟩⟩; refine ⟨_, rfl, ?_⟩) | ((with_reducible refine gate_callee (f := 39) rfl ?_); refine goesL_ (some 18) rfl rfl Tryd.func39 (by kernel_rfl) rfl #[.string (t321.extract 0 (t322 : Int).toNat)] rfl (by (try simp only [List.map_toArray, List.map_cons, List.map_nil]); first | done | rfl | (simp only [List.length_drop, List.length_take]; rfl)) ?_; (with_reducible refine (tinselref03_bare.calls k (t321.extract 0 (t322 : Int).toNat) t323 _ A9.out).mono ?_); rintro e w' ⟨rfl, ⟨nd, rfl⟩⟩; refine ⟨_, rfl, ?_⟩))
              go_ret
              exact ⟨by first | rfl | (simp; done) | (simp [*]; done), by repeat (first | exact Drawn0.refl _ | apply Drawn0.step)⟩
            · rw [if_neg c10] at H
              have c10b0 : (t323.toList == ([] : List UInt8)) = false := beq_eq_false_iff_ne.mpr c10
              have c10b1 : (t323.toList != ([] : List UInt8)) = true := bne_iff_ne.mpr c10
              obtain rfl := Option.some.inj H
              go_enter Tryd.func25, Tryd.ntmps25
              go_wp2_with (first | ((with_reducible refine gate_callee (f := 39) rfl ?_); refine goesL_ (some 8) rfl rfl Tryd.func39 (by kernel_rfl) rfl #[.string a0] rfl (by (try simp only [List.map_toArray, List.map_cons, List.map_nil]); first | done | rfl | (simp only [List.length_drop, List.length_take]; rfl)) ?_; (with_reducible refine (tinselref03_bare.calls k a0 t321 _ A3.out).mono ?_); rintro e w' ⟨rfl, ⟨nd, rfl⟩⟩; refine ⟨_, rfl, ?_⟩) | ((with_reducible refine gate_callee (f := 40) rfl ?_); refine goesL_ (some 12) rfl rfl Tryd.func40 (by kernel_rfl) rfl #[.string t321] rfl (by (try simp only [List.map_toArray, List.map_cons, List.map_nil]); first | done | rfl | (simp only [List.length_drop, List.length_take]; rfl)) ?_; (with_reducible refine (tinselref03_last.calls k t321 t322 _ A5.out).mono ?_); rintro e w' ⟨rfl, ⟨nd, rfl⟩⟩; refine ⟨_, rfl, ?_⟩) | ((with_reducible refine gate_callee (f := 39) rfl ?_); refine goesL_ (some 18) rfl rfl Tryd.func39 (by kernel_rfl) rfl #[.string (t321.extract 0 (t322 : Int).toNat)] rfl (by (try simp only [List.map_toArray, List.map_cons, List.map_nil]); first | done | rfl | (simp only [List.length_drop, List.length_take]; rfl)) ?_; (with_reducible refine (tinselref03_bare.calls k (t321.extract 0 (t322 : Int).toNat) t323 _ A9.out).mono ?_); rintro e w' ⟨rfl, ⟨nd, rfl⟩⟩; refine ⟨_, rfl, ?_⟩))
              go_ret
              exact ⟨by first | rfl | (simp; done) | (simp [*]; done), by repeat (first | exact Drawn0.refl _ | apply Drawn0.step)⟩
          · rw [if_neg c8] at H
            exact absurd H (by simp)
        · rw [if_neg c7] at H
          exact absurd H (by simp)

/-! ### tinsellaw03_PathEnds: function 6 -/
def tinsellaw03_PathEnds.f (k : Nat) (a0 : ByteArray) (a1 : ByteArray) : Option (Bool) := (path_Base.f k a0 a1).bind fun t324 => ((tinselref03_Base.f k a0 a1).bind fun t325 => (if t324.toList = t325.toList then ((path_Dir.f k a0).bind fun t326 => ((tinselref03_Dir.f k a0).bind fun t327 => (if t326.toList = t327.toList then ((tinsellaw03_lives.f k).bind fun t328 => (some t328)) else (some false)))) else (some false)))
theorem tinsellaw03_PathEnds.mono : ∀ a0 a1 k, LeO (tinsellaw03_PathEnds.f k a0 a1) (tinsellaw03_PathEnds.f (k + 1) a0 a1) := by
  intro a0 a1 k
  unfold tinsellaw03_PathEnds.f
  repeat' first
      | (with_reducible exact path_Base.mono _ _ _)
      | (with_reducible exact path_Dir.mono _ _)
      | (with_reducible exact tinsellaw03_lives.mono _)
      | (with_reducible exact tinselref03_Base.mono _ _ _)
      | (with_reducible exact tinselref03_Dir.mono _ _)
      | (with_reducible exact LeO.refl _)
      | (with_reducible exact LeO.none _)
      | (with_reducible refine LeO.ite ?_ ?_)
      | (with_reducible refine LeO.bind ?_ (fun _ => ?_))
      | exact path_Base.mono _ _ _
      | exact path_Dir.mono _ _
      | exact tinsellaw03_lives.mono _
      | exact tinselref03_Base.mono _ _ _
      | exact tinselref03_Dir.mono _ _
      | exact LeO.none _
      | refine LeO.ite ?_ ?_
      | refine LeO.bind ?_ (fun _ => ?_)
set_option maxHeartbeats 8000000 in
set_option maxRecDepth 100000 in
theorem tinsellaw03_PathEnds.calls (k : Nat) (a0 : ByteArray) (a1 : ByteArray) (r : Bool) (w : World) (h : tinsellaw03_PathEnds.f k a0 a1 = some r) :
    Calls Tryd.prog 6 #[.string a0, .string a1] w fun e w' => e = .returned (.bool r) ∧ Below w.heap.size w w' := by
  have HB := Aside0.mk (Below.refl w.heap.size w)
  have H : ((path_Base.f k a0 a1).bind fun t324 => ((tinselref03_Base.f k a0 a1).bind fun t325 => (if t324.toList = t325.toList then ((path_Dir.f k a0).bind fun t326 => ((tinselref03_Dir.f k a0).bind fun t327 => (if t326.toList = t327.toList then ((tinsellaw03_lives.f k).bind fun t328 => (some t328)) else (some false)))) else (some false)))) = some r := h
  clear h
  replace H := Option.bind_eq_some_iff.mp H
  obtain ⟨t324, A30, H⟩ := H
  replace H : ((tinselref03_Base.f k a0 a1).bind fun t325 => (if t324.toList = t325.toList then ((path_Dir.f k a0).bind fun t326 => ((tinselref03_Dir.f k a0).bind fun t327 => (if t326.toList = t327.toList then ((tinsellaw03_lives.f k).bind fun t328 => (some t328)) else (some false)))) else (some false))) = some r := H
  have A3 := Aside0.mk A30
  clear A30
  replace H := Option.bind_eq_some_iff.mp H
  obtain ⟨t325, A40, H⟩ := H
  replace H : (if t324.toList = t325.toList then ((path_Dir.f k a0).bind fun t326 => ((tinselref03_Dir.f k a0).bind fun t327 => (if t326.toList = t327.toList then ((tinsellaw03_lives.f k).bind fun t328 => (some t328)) else (some false)))) else (some false)) = some r := H
  have A4 := Aside0.mk A40
  clear A40
  by_cases c5 : t324.toList = t325.toList
  · rw [if_pos c5] at H
    have c5b0 : (t324.toList == t325.toList) = true := beq_iff_eq.mpr c5
    have c5b1 : (t324.toList != t325.toList) = false := bne_eq_false_iff_eq.mpr c5
    clear c5
    replace H := Option.bind_eq_some_iff.mp H
    obtain ⟨t326, A60, H⟩ := H
    replace H : ((tinselref03_Dir.f k a0).bind fun t327 => (if t326.toList = t327.toList then ((tinsellaw03_lives.f k).bind fun t328 => (some t328)) else (some false))) = some r := H
    have A6 := Aside0.mk A60
    clear A60
    replace H := Option.bind_eq_some_iff.mp H
    obtain ⟨t327, A70, H⟩ := H
    replace H : (if t326.toList = t327.toList then ((tinsellaw03_lives.f k).bind fun t328 => (some t328)) else (some false)) = some r := H
    have A7 := Aside0.mk A70
    clear A70
    by_cases c8 : t326.toList = t327.toList
    · rw [if_pos c8] at H
      have c8b0 : (t326.toList == t327.toList) = true := beq_iff_eq.mpr c8
      have c8b1 : (t326.toList != t327.toList) = false := bne_eq_false_iff_eq.mpr c8
      clear c8
      replace H := Option.bind_eq_some_iff.mp H
      obtain ⟨t328, A90, H⟩ := H
      replace H : (some t328) = some r := H
      have A9 := Aside0.mk A90
      clear A90
      obtain rfl := Option.some.inj H
      go_enter Tryd.func6, Tryd.ntmps6
      go_wp2_with (first | ((with_reducible refine gate_callee (f := 22) rfl ?_); refine goesL_ (some 7) rfl rfl Tryd.func22 (by kernel_rfl) rfl #[.string a0, .string a1] rfl (by (try simp only [List.map_toArray, List.map_cons, List.map_nil]); first | done | rfl | (simp only [List.length_drop, List.length_take]; rfl)) ?_; (with_reducible refine (path_Base.calls k a0 a1 t324 _ A3.out).mono ?_); rintro e w' ⟨rfl, ⟨nd, rfl⟩⟩; refine ⟨_, rfl, ?_⟩) | ((with_reducible refine gate_callee (f := 23) rfl ?_); refine goesL_ (some 10) rfl rfl Tryd.func23 (by kernel_rfl) rfl #[.string a0, .string a1] rfl (by (try simp only [List.map_toArray, List.map_cons, List.map_nil]); first | done | rfl | (simp only [List.length_drop, List.length_take]; rfl)) ?_; (with_reducible refine (tinselref03_Base.calls k a0 a1 t325 _ A4.out).mono ?_); rintro e w' ⟨rfl, ⟨nd, rfl⟩⟩; refine ⟨_, rfl, ?_⟩) | (go_at_call 24; refine calls_of_args (args' := #[.string a0]) (by first | done | rfl | (simp only [List.length_drop, List.length_take]; done) | (simp only [List.length_drop, List.length_take]; rfl)) ?_; (with_reducible refine (path_Dir.calls k a0 t326 _ A6.out).mono ?_); rintro e w' ⟨rfl, ⟨nd, rfl⟩⟩) | (go_at_call 25; refine calls_of_args (args' := #[.string a0]) (by first | done | rfl | (simp only [List.length_drop, List.length_take]; done) | (simp only [List.length_drop, List.length_take]; rfl)) ?_; (with_reducible refine (tinselref03_Dir.calls k a0 t327 _ A7.out).mono ?_); rintro e w' ⟨rfl, ⟨nd, rfl⟩⟩) | (go_at_call 13; refine calls_of_args (args' := #[]) (by first | done | rfl | (simp only [List.length_drop, List.length_take]; done) | (simp only [List.length_drop, List.length_take]; rfl)) ?_; (with_reducible refine (tinsellaw03_lives.calls k  t328 _ A9.out).mono ?_); rintro e w10 ⟨rfl, hb⟩; have n0_ := Aside0.mk (below_step (by repeat (first | (with_reducible first | exact HB.out | apply below_alloc | apply pw_below_drewN | apply below_drew1) | exact HB.out)) hb); clear HB; have HB := n0_; clear n0_; (try clear hb); (try clear hb2); (try clear hk); (try clear hi)))
      go_ret
      exact ⟨by first | rfl | (simp [errW_none, errW_some] <;> rfl) | (simp [*, errW_none, errW_some] <;> rfl), by repeat (first | (with_reducible first | exact HB.out | apply below_alloc | apply pw_below_drewN | apply below_drew1) | exact HB.out)⟩
    · rw [if_neg c8] at H
      have c8b0 : (t326.toList == t327.toList) = false := beq_eq_false_iff_ne.mpr c8
      have c8b1 : (t326.toList != t327.toList) = true := bne_iff_ne.mpr c8
      obtain rfl := Option.some.inj H
      go_enter Tryd.func6, Tryd.ntmps6
      go_wp2_with (first | ((with_reducible refine gate_callee (f := 22) rfl ?_); refine goesL_ (some 7) rfl rfl Tryd.func22 (by kernel_rfl) rfl #[.string a0, .string a1] rfl (by (try simp only [List.map_toArray, List.map_cons, List.map_nil]); first | done | rfl | (simp only [List.length_drop, List.length_take]; rfl)) ?_; (with_reducible refine (path_Base.calls k a0 a1 t324 _ A3.out).mono ?_); rintro e w' ⟨rfl, ⟨nd, rfl⟩⟩; refine ⟨_, rfl, ?_⟩) | ((with_reducible refine gate_callee (f := 23) rfl ?_); refine goesL_ (some 10) rfl rfl Tryd.func23 (by kernel_rfl) rfl #[.string a0, .string a1] rfl (by (try simp only [List.map_toArray, List.map_cons, List.map_nil]); first | done | rfl | (simp only [List.length_drop, List.length_take]; rfl)) ?_; (with_reducible refine (tinselref03_Base.calls k a0 a1 t325 _ A4.out).mono ?_); rintro e w' ⟨rfl, ⟨nd, rfl⟩⟩; refine ⟨_, rfl, ?_⟩) | (go_at_call 24; refine calls_of_args (args' := #[.string a0]) (by first | done | rfl | (simp only [List.length_drop, List.length_take]; done) | (simp only [List.length_drop, List.length_take]; rfl)) ?_; (with_reducible refine (path_Dir.calls k a0 t326 _ A6.out).mono ?_); rintro e w' ⟨rfl, ⟨nd, rfl⟩⟩) | (go_at_call 25; refine calls_of_args (args' := #[.string a0]) (by first | done | rfl | (simp only [List.length_drop, List.length_take]; done) | (simp only [List.length_drop, List.length_take]; rfl)) ?_; (with_reducible refine (tinselref03_Dir.calls k a0 t327 _ A7.out).mono ?_); rintro e w' ⟨rfl, ⟨nd, rfl⟩⟩))
      go_ret
      exact ⟨by first | rfl | (simp [errW_none, errW_some] <;> rfl) | (simp [*, errW_none, errW_some] <;> rfl), by repeat (first | (with_reducible first | exact HB.out | apply below_alloc | apply pw_below_drewN | apply below_drew1) | exact HB.out)⟩
  · rw [if_neg c5] at H
    have c5b0 : (t324.toList == t325.toList) = false := beq_eq_false_iff_ne.mpr c5
    have c5b1 : (t324.toList != t325.toList) = true := bne_iff_ne.mpr c5
    obtain rfl := Option.some.inj H
    go_enter Tryd.func6, Tryd.ntmps6
    go_wp2_with (first | ((with_reducible refine gate_callee (f := 22) rfl ?_); refine goesL_ (some 7) rfl rfl Tryd.func22 (by kernel_rfl) rfl #[.string a0, .string a1] rfl (by (try simp only [List.map_toArray, List.map_cons, List.map_nil]); first | done | rfl | (simp only [List.length_drop, List.length_take]; rfl)) ?_; (with_reducible refine (path_Base.calls k a0 a1 t324 _ A3.out).mono ?_); rintro e w' ⟨rfl, ⟨nd, rfl⟩⟩; refine ⟨_, rfl, ?_⟩) | ((with_reducible refine gate_callee (f := 23) rfl ?_); refine goesL_ (some 10) rfl rfl Tryd.func23 (by kernel_rfl) rfl #[.string a0, .string a1] rfl (by (try simp only [List.map_toArray, List.map_cons, List.map_nil]); first | done | rfl | (simp only [List.length_drop, List.length_take]; rfl)) ?_; (with_reducible refine (tinselref03_Base.calls k a0 a1 t325 _ A4.out).mono ?_); rintro e w' ⟨rfl, ⟨nd, rfl⟩⟩; refine ⟨_, rfl, ?_⟩))
    go_ret
    exact ⟨by first | rfl | (simp [errW_none, errW_some] <;> rfl) | (simp [*, errW_none, errW_some] <;> rfl), by repeat (first | (with_reducible first | exact HB.out | apply below_alloc | apply pw_below_drewN | apply below_drew1) | exact HB.out)⟩

/-- THE ONE PURE STATEMENT of tinsellaw03_PathEnds: yours. -/
def tinsellaw03_PathEnds.Pure : Prop := ∀ (a0 : ByteArray) (a1 : ByteArray), a0.size ≤ 140737488351232 → a1.size ≤ 140737488351232 → ∃ k, tinsellaw03_PathEnds.f k a0 a1 = some true
theorem tinsellaw03_PathEnds.walk (P : tinsellaw03_PathEnds.Pure) (a0 : ByteArray) (a1 : ByteArray) (w : World) (w0 : a0.size ≤ 140737488351232) (w1 : a1.size ≤ 140737488351232) :
    Calls Tryd.prog 6 #[.string a0, .string a1] w fun e w' => e = .returned (.bool true) ∧ Below w.heap.size w w' := by
  obtain ⟨k, h⟩ := P a0 a1 w0 w1
  refine (tinsellaw03_PathEnds.calls k a0 a1 true w h).mono ?_
  rintro e w' ⟨rfl, hd⟩
  exact ⟨rfl, hd⟩

end Go.Proofs.YtajafgcndalieaaDoor.P
