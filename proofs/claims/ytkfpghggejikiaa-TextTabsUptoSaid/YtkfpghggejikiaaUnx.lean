-- Printed by wip/pr.py (our own turn of the kit's printer) out of the translation; Lean checks it.
import Derived.Test.YtkfpghggejikiaaPx0
import Derived.Test.YtkfpghggejikiaaPx3
import Derived.Test.YtkfpghggejikiaaPx7
import Derived.Test.YtkfpghggejikiaaPx8
import Derived.Test.YtkfpghggejikiaaPx11
import Derived.Test.YtkfpghggejikiaaUnxD
namespace Go.Proofs.Ytkfpghggejikiaa.P
open Go.RowKit Go.Proofs.YtkfpghggejikiaaW.PrintWords Go.Proofs.YtkfpghggejikiaaW.PrintLast Go.Proofs.YtkfpghggejikiaaW.PrintMore
attribute [local go_sem] max2_int min2_int max_two min_two max_three min_three max_four min_four   -- for this text's walks alone
set_option linter.unusedVariables false
set_option linter.unusedSimpArgs false

set_option maxHeartbeats 8000000 in
set_option maxRecDepth 100000 in
theorem tinselref15_Unexpand.calls (k : Nat) (A0 : Option Addr) (c0 : Nat) (l0 : List Int) (A1 : Option Addr) (c1 : Nat) (l1 : List Int) (a2 : Bool) (r1 : List Int) (r2 : Int) (w : World) (hr0 : Kd.C (Kd.int .u8) w A0 l0.length l0) (hc0 : l0.length ≤ c0) (hr1 : Kd.C (Kd.int .i64) w A1 l1.length l1) (hc1 : l1.length ≤ c1) (h : tinselref15_Unexpand.f k l0 l1 a2 = some (r1, r2)) :
    Calls Try.prog 19 #[.slice A0 l0.length c0, .slice A1 l1.length c1, .bool a2] w fun e w' => ∃ v0_ : Value, e = .returned (.tuple #[v0_, .int .i64 r2]) ∧ Kd.R (Kd.int .u8) 5 w' w.heap.size (fun _ => True) v0_ r1 ∧ Below w.heap.size w w' := by
  have HR0 := Aside0.mk hr0
  have HC0 := Aside0.mk hc0
  clear hr0 hc0
  have HR1 := Aside0.mk hr1
  have HC1 := Aside0.mk hc1
  clear hr1 hc1
  have HB := Aside0.mk (Below.refl w.heap.size w)
  have H : ((tinselref15_Stops.f k l1).bind fun t386 => (if t386 = true then ((tinselref15_Lines.f k l0).bind fun bt387 => (tinselref15_Unexpand.l0 k l1 a2 bt387.1 bt387.2 (bt387.1.length : Int) 0)) else (some (([] : List Int), 22)))) = some (r1, r2) := h
  clear h
  replace H := Option.bind_eq_some_iff.mp H
  obtain ⟨t386, A40, H⟩ := H
  replace H : (if t386 = true then ((tinselref15_Lines.f k l0).bind fun bt387 => (tinselref15_Unexpand.l0 k l1 a2 bt387.1 bt387.2 (bt387.1.length : Int) 0)) else (some (([] : List Int), 22))) = some (r1, r2) := H
  have A4 := Aside0.mk A40
  clear A40
  by_cases c5 : t386 = true
  · subst c5
    have H1 : ((tinselref15_Lines.f k l0).bind fun bt387 => (tinselref15_Unexpand.l0 k l1 a2 bt387.1 bt387.2 (bt387.1.length : Int) 0)) = some (r1, r2) := by rw [if_pos rfl] at H; exact H
    clear H
    have H := H1
    clear H1
    replace H := Option.bind_eq_some_iff.mp H
    obtain ⟨⟨t387, t388⟩, A60, H⟩ := H
    replace H : (tinselref15_Unexpand.l0 k l1 a2 t387 t388 (t387.length : Int) 0) = some (r1, r2) := H
    have A6 := Aside0.mk A60
    clear A60
    have H' := Aside0.mk H
    clear H
    go_enter Try.func19, Try.ntmps19
    go_wp2_with (first | ((with_reducible refine gate_callee (f := 15) rfl ?_); refine goesL_ (some 18) rfl rfl Try.func15 (by kernel_rfl) rfl #[.slice A1 l1.length c1] rfl (by (try simp only [List.map_toArray, List.map_cons, List.map_nil]); first | done | rfl | (simp only [List.length_drop, List.length_take]; rfl)) ?_; (with_reducible refine (tinselref15_Stops.calls k _ _ l1 true _ ?side1 ?side2 A4.out).mono ?_); (case side1 => repeat (first | exact HR1.out | (with_reducible refine Kd.C_alloc ?_ _) | (with_reducible refine Kd.C_drewN ?_ _) | (with_reducible refine Kd.C_drew ?_))); (case side2 => exact HC1.out); rintro e w' ⟨rfl, ⟨nd, rfl⟩⟩; refine ⟨_, rfl, ?_⟩) | ((with_reducible refine gate_callee (f := 7) rfl ?_); refine goesL_ (some 22) rfl rfl Try.func7 (by kernel_rfl) rfl #[.slice A0 l0.length c0] rfl (by (try simp only [List.map_toArray, List.map_cons, List.map_nil]); first | done | rfl | (simp only [List.length_drop, List.length_take]; rfl)) ?_; (with_reducible refine (tinselref15_Lines.calls k _ _ l0 t387 t388 _ ?side1 ?side2 A6.out).mono ?_); (case side1 => repeat (first | exact HR0.out | (with_reducible refine Kd.C_alloc ?_ _) | (with_reducible refine Kd.C_drewN ?_ _) | (with_reducible refine Kd.C_drew ?_))); (case side2 => exact HC0.out); rintro e w7 ⟨v389, rfl, ho0, hb⟩; refine ⟨_, rfl, ?_⟩; have n0_ := Aside0.mk (Kd.N_lower (Kd.N_mono (ok' := fun k_ => True) (Kd.S_N (Kd.S_bound ho0)) (fun k_ hk_ => trivial)) (below_size (by repeat (first | (with_reducible first | exact HB.out | apply below_alloc | apply pw_below_drewN | apply below_drew1) | exact HB.out)))); have n1_ := Aside0.mk (below_step (by repeat (first | (with_reducible first | exact HB.out | apply below_alloc | apply pw_below_drewN | apply below_drew1) | exact HB.out)) hb); clear HB; have HO390 := n0_; have HB := n1_; clear n0_ n1_; (try clear hb); (try clear hb2); (try clear hk); (try clear hi); (try clear ho0); obtain ⟨Ao8, co8, eo8⟩ := Kd.N_slice HO390.out; subst eo8))
    go_loopg [27] k (fun kq v27 w' => ∃ (x8_1 : List (List Int)) (x27_1 : Int), v27 = .int .i64 x27_1 ∧ Aside0 (tinselref15_Unexpand.l0 kq l1 a2 x8_1 t388 (t387.length : Int) x27_1 = some (r1, r2)) ∧ Aside0 (kq ≤ k) ∧ Aside0 (Kd.N (Kd.slice 5 (Kd.int .u8)) 22 w' w.heap.size (fun _ => True) (.slice Ao8 t387.length co8) x8_1) ∧ Aside0 (Below w.heap.size w w'))
    case atStart => exact ⟨(t387), (0), (by first | rfl | (simp; done) | (simp [*]; done)), H', ⟨Nat.le_refl _⟩, ⟨by (with_reducible repeat (first | apply Kd.N_alloc | apply Kd.N_drewN | apply Kd.N_drew)); exact HO390.out⟩, ⟨by repeat (first | (with_reducible first | exact HB.out | apply below_alloc | apply pw_below_drewN | apply below_drew1) | exact HB.out)⟩⟩
    case round =>
      clear H'
      try clear c1
      try clear p2
      try clear c5
      try clear c7
      obtain ⟨x8_1, x27_1, rfl, HA, HK1, HO_8, HB⟩ := hrel
      have hl8_1 := (Kd.N_reads' HO_8.out).1
      rw [hl8_1] at HO_8
      (try simp only [hl8_1])
      cases gk with
      | zero => exact absurd HA.out (by simp [tinselref15_Unexpand.l0])
      | succ k1 =>
        have H := HA.out
        clear HA
        simp only [tinselref15_Unexpand.l0] at H
        by_cases c9 : x27_1 < (t387.length : Int)
        · rw [if_pos c9] at H
          have c9b0 : decide (x27_1 < (t387.length : Int)) = true := decide_eq_true c9
          clear c9
          by_cases c10 : 0 ≤ x27_1
          · rw [if_pos c10] at H
            have c10b0 : decide (0 ≤ x27_1) = true := decide_eq_true c10
            clear c10
            by_cases c11 : x27_1 < (x8_1.length : Int)
            · rw [if_pos c11] at H
              have c11b0 : decide (x27_1 < (x8_1.length : Int)) = true := decide_eq_true c11
              clear c11
              obtain ⟨y395, hy395⟩ : ∃ y_ : List Int, y_ = (([] : List Int)) := ⟨_, rfl⟩
              replace H : (tinselref15_Unexpand.l1 k1 l1 a2 x8_1 t388 x27_1 (rd_L1 x8_1 x27_1) y395 0 0 (t387.length : Int) x27_1) = some (r1, r2) := by first | (rw [hy395]; with_reducible exact H) | (have H2_ := (Option.bind_some _ _).symm.trans H; rw [hy395]; with_reducible exact H2_) | (have H2_ := (Option.bind_some _ _).symm.trans H; with_reducible exact H2_) | with_reducible exact H | (rw [hy395]; exact H) | exact H
              have Ny395 := Aside0.mk hy395
              clear hy395
              have H' := Aside0.mk H
              clear H
              have p394 : 0 ≤ (x27_1 : Int) := of_decide_eq_true (by first | (with_reducible assumption) | assumption)
              have q394 : x27_1 < (x8_1.length : Int) := of_decide_eq_true (by first | (with_reducible assumption) | assumption)
              obtain ⟨ad394, A394_0, c394_0, e394, hx394_0, hl394_0, hi394_0⟩ := at_L1 (Kd.N_reads' HO_8.out).2.2 x27_1 p394 q394
              cases e394
              obtain ⟨ce394, hce394, hMe394, hcc394⟩ := Kd.N_get HO_8.out [] x27_1 p394 (by first | exact q394 | exact of_decide_eq_true (by first | (with_reducible assumption) | assumption) | (have e_ := (Kd.N_reads' HO_8.out).1; omega))
              obtain ⟨ua394_0, uc394_0, rfl, ul394_0, ge394_0⟩ := Kd.FK_slice_open hMe394
              have hv394_0 := hcc394 0 _ rfl
              rw [Nat.add_zero, show ((Kd.slice 5 (Kd.int .u8))).sz = 1 from rfl, Nat.mul_one] at hv394_0
              replace hv394_0 := Option.some.inj (hv394_0.symm.trans hx394_0)
              injection hv394_0 with hva_ hvn_ hvc_
              rw [hva_] at ge394_0
              rw [hvc_] at ul394_0
              have HL394_0 := Aside0.mk (show Kd.V (Kd.int .u8) 5 _ w.heap.size _ _ (rd_L1 x8_1 x27_1) from Kd.V_mk ul394_0 ge394_0)
              clear hva_ hvn_ hvc_ ge394_0 ul394_0
              clear hcc394 hce394
              have HR394_0 := Aside0.mk hi394_0
              have HC394_0 := Aside0.mk hl394_0
              clear hi394_0 hl394_0
              replace p394 := eq_true p394
              replace q394 := eq_true q394
              rename World => w0
              have HN0 := HO_8
              have HBo := HB
              replace HR1 := Aside0.mk (Kd.C_below HR1.out HB.out)
              clear HO_8 HB HL394_0
              have HB := Aside0.mk (Below.refl w0.heap.size w0)
              go_wp2_with (first | ((with_reducible refine gate_dst (N := 32) rfl ?_); refine Kd.R_lit (Kd.int .u8) _ 5 ?hg (N := 32) ?hd (xs := ([] : List Int)) (inner := []) (ok := fun _ => True) (okp := fun _ => True) ?hr ?hp (fun _ hk => hk) trivial (Below.refl _ _) (Nat.le_refl _) (by simp) ?_; (case hd => rfl); (case hg => rfl); (case hr => first | (go_simp; done) | (go_simp; rfl)); (case hp => exact (Reps.none _ _)); intro v396 w12 ho13 hb hg_ hnew_; clear hg_ hnew_; (first | rw [← Ny395.out] at ho13 | (simp only [Int.reduceToNat] at ho13; rw [← Ny395.out] at ho13)); have n2_ := Aside0.mk (Kd.R_lower ho13 (below_size (by repeat (first | (with_reducible first | exact HB.out | apply below_alloc | apply pw_below_drewN | apply below_drew1) | exact HB.out)))); have n4_ := Aside0.mk (below_step (by repeat (first | (with_reducible first | exact HB.out | apply below_alloc | apply pw_below_drewN | apply below_drew1) | exact HB.out)) hb); clear HB; have HO397 := n2_; have HB := n4_; clear n2_ n4_; clear hb ho13))
              go_loopg [12, 13, 14] k1 (fun kq v12 v13 v14 w' => ∃ (x12_2 : List Int) (x13_2 : Int) (x14_2 : Int), v13 = .int .i64 x13_2 ∧ v14 = .int .i64 x14_2 ∧ Aside0 (tinselref15_Unexpand.l1 kq l1 a2 x8_1 t388 x27_1 (rd_L1 x8_1 x27_1) x12_2 x13_2 x14_2 (t387.length : Int) x27_1 = some (r1, r2)) ∧ Aside0 (kq ≤ k1) ∧ Aside0 (Kd.R (Kd.int .u8) 5 w' w0.heap.size (fun _ => True) v12 x12_2) ∧ Aside0 (Below w0.heap.size w0 w'))
              case atStart => exact ⟨(y395), (0), (0), (by first | rfl | (simp; done) | (simp [*]; done)), (by first | rfl | (simp; done) | (simp [*]; done)), H', ⟨Nat.le_refl _⟩, ⟨by (try simp only [hl8_1]); (with_reducible repeat (first | apply Kd.R_alloc | apply Kd.R_drewN | apply Kd.R_drew)); exact HO397.out⟩, ⟨by repeat (first | (with_reducible first | exact HB.out | apply below_alloc | apply pw_below_drewN | apply below_drew1) | exact HB.out)⟩⟩
              case round =>
                clear H'
                try clear c1
                try clear p2
                try clear c3
                try clear p3
                try clear q3
                try clear hx3
                try clear c5
                try clear c7
                try clear c9
                try clear c9b0
                try clear c10
                try clear c10b0
                try clear c11
                try clear c11b0
                try clear hx394_0
                try clear p2
                try clear p394
                try clear q394
                obtain ⟨x12_2, x13_2, x14_2, rfl, rfl, HA, HK2, HO_12, HB⟩ := hrel
                cases gk with
                | zero => exact absurd HA.out (by simp [tinselref15_Unexpand.l1])
                | succ k2 =>
                  have H := HA.out
                  clear HA
                  simp only [tinselref15_Unexpand.l1] at H
                  by_cases c14 : x14_2 < ((rd_L1 x8_1 x27_1).length : Int)
                  · rw [if_pos c14] at H
                    have c14b0 : decide (x14_2 < ((rd_L1 x8_1 x27_1).length : Int)) = true := decide_eq_true c14
                    clear c14
                    have HC15 := Aside0.mk H
                    clear H
                    go_upto_block 4 with (fail)
                    go_cut [13, 14] (fun v13 v14 wc => ∃ (kq : Nat) (x13_14 : Int) (x14_14 : Int), v13 = .int .i64 x13_14 ∧ v14 = .int .i64 x14_14 ∧ Aside0 (tinselref15_Unexpand.j3 kq l1 a2 x8_1 t388 x27_1 (rd_L1 x8_1 x27_1) x12_2 x13_14 x14_14 x13_2 x14_2 (t387.length : Int) x27_1 = some (r1, r2)) ∧ Aside0 (kq ≤ k2) ∧ Aside0 (Kd.R (Kd.int .u8) 5 wc w0.heap.size (fun _ => True) u12 x12_2) ∧ Aside0 (Below w0.heap.size w0 wc))
                    case first =>
                      have H := HC15.out
                      clear HC15
                      have H' := Aside0.mk H
                      clear H
                      go_wp2
                      go_loopg [13, 14] k2 (fun kq v13 v14 w' => ∃ (x13_3 : Int) (x14_3 : Int), v13 = .int .i64 x13_3 ∧ v14 = .int .i64 x14_3 ∧ Aside0 (tinselref15_Unexpand.l2 kq l1 a2 x8_1 t388 x27_1 (rd_L1 x8_1 x27_1) x12_2 x13_3 x14_3 x13_2 x14_2 (t387.length : Int) x27_1 = some (r1, r2)) ∧ Aside0 (kq ≤ k2) ∧ Aside0 (Kd.R (Kd.int .u8) 5 w' w0.heap.size (fun _ => True) u12 x12_2) ∧ Aside0 (Below w0.heap.size w0 w'))
                      case atStart => exact ⟨(x13_2), (x14_2), (by first | rfl | (simp; done) | (simp [*]; done)), (by first | rfl | (simp; done) | (simp [*]; done)), H', ⟨Nat.le_refl _⟩, ⟨by (try simp only [hl8_1]); (with_reducible repeat (first | apply Kd.R_alloc | apply Kd.R_drewN | apply Kd.R_drew)); exact HO_12.out⟩, ⟨by repeat (first | (with_reducible first | exact HB.out | apply below_alloc | apply pw_below_drewN | apply below_drew1) | exact HB.out)⟩⟩
                      case round =>
                        clear H'
                        try clear c1
                        try clear p2
                        try clear c3
                        try clear p3
                        try clear q3
                        try clear hx3
                        try clear c5
                        try clear c7
                        try clear c9
                        try clear c9b0
                        try clear c10
                        try clear c10b0
                        try clear c11
                        try clear c11b0
                        try clear c14
                        try clear c14b0
                        try clear c15
                        try clear hx394_0
                        try clear p2
                        try clear p3
                        try clear p394
                        try clear q3
                        try clear q394
                        obtain ⟨x13_3, x14_3, rfl, rfl, HA, HK3, HO_12, HB⟩ := hrel
                        cases gk with
                        | zero => exact absurd HA.out (by simp [tinselref15_Unexpand.l2])
                        | succ k3 =>
                          have H := HA.out
                          clear HA
                          simp only [tinselref15_Unexpand.l2] at H
                          by_cases c16 : x14_3 < ((rd_L1 x8_1 x27_1).length : Int)
                          · rw [if_pos c16] at H
                            have c16b0 : decide (x14_3 < ((rd_L1 x8_1 x27_1).length : Int)) = true := decide_eq_true c16
                            clear c16
                            (first | rw [c16b0] | (simp only [i64_w, i32_w]; rw [c16b0]) | skip)
                            by_cases c17 : 0 ≤ x14_3
                            · rw [if_pos c17] at H
                              have c17b0 : decide (0 ≤ x14_3) = true := decide_eq_true c17
                              clear c17
                              by_cases c18 : (rd (rd_L1 x8_1 x27_1) x14_3) = 32
                              · rw [if_pos c18] at H
                                have c18b0 : ((rd (rd_L1 x8_1 x27_1) x14_3) == 32) = true := beq_iff_eq.mpr c18
                                have c18b1 : ((rd (rd_L1 x8_1 x27_1) x14_3) != 32) = false := bne_eq_false_iff_eq.mpr c18
                                clear c18
                                replace H := Option.bind_eq_some_iff.mp H
                                obtain ⟨t401, A190, H⟩ := H
                                replace H : (tinselref15_Unexpand.l2 k3 l1 a2 x8_1 t388 x27_1 (rd_L1 x8_1 x27_1) x12_2 t401 (wrap64 (x14_3 + 1)) x13_2 x14_2 (t387.length : Int) x27_1) = some (r1, r2) := H
                                have A19 := Aside0.mk A190
                                clear A190
                                have H' := Aside0.mk H
                                clear H
                                have p399 : 0 ≤ (x14_3 : Int) := of_decide_eq_true (by first | (with_reducible assumption) | assumption)
                                have q399 : x14_3 < ((rd_L1 x8_1 x27_1).length : Int) := of_decide_eq_true (by first | (with_reducible assumption) | assumption)
                                obtain ⟨ad399, e399, hx399_0⟩ := Kd.at_int HR394_0.out x14_3 p399 q399
                                cases e399
                                replace hx399_0 := (HB.out.cell (World.block_lt_of_cell? w0 _ hx399_0)).trans hx399_0
                                replace p399 := eq_true p399
                                replace q399 := eq_true q399
                                have p400 : 0 ≤ (x14_3 : Int) := of_decide_eq_true (by first | (with_reducible assumption) | assumption)
                                have q400 : x14_3 < ((rd_L1 x8_1 x27_1).length : Int) := of_decide_eq_true (by first | (with_reducible assumption) | assumption)
                                obtain ⟨ad400, e400, hx400_0⟩ := Kd.at_int HR394_0.out x14_3 p400 q400
                                obtain rfl : ad399 = ad400 := (by injection e400)
                                replace hx400_0 := (HB.out.cell (World.block_lt_of_cell? w0 _ hx400_0)).trans hx400_0
                                replace p400 := eq_true p400
                                replace q400 := eq_true q400
                                go_wp2_with (first | ((with_reducible refine gate_callee (f := 33) rfl ?_); refine goesL_ (some 63) rfl rfl Try.func33 (by kernel_rfl) rfl #[.int .i64 x13_3, .int .u8 (rd (rd_L1 x8_1 x27_1) x14_3), .slice A1 l1.length c1] rfl (by (try simp only [List.map_toArray, List.map_cons, List.map_nil]); first | done | rfl | (simp only [List.length_drop, List.length_take]; rfl)) ?_; (with_reducible refine (tinselref15_step.calls k3 x13_3 (rd (rd_L1 x8_1 x27_1) x14_3) _ _ l1 t401 _ ?side1 ?side2 A19.out).mono ?_); (case side1 => repeat (first | exact (Kd.C_below HR1.out HB.out) | (with_reducible refine Kd.C_alloc ?_ _) | (with_reducible refine Kd.C_drewN ?_ _) | (with_reducible refine Kd.C_drew ?_))); (case side2 => exact HC1.out); rintro e w' ⟨rfl, ⟨nd, rfl⟩⟩; refine ⟨_, rfl, ?_⟩))
                                go_roundg k3
                                case measure => have := HK1.out; have := HK2.out; have := HK3.out; omega
                                case rel => exact ⟨(t401), (wrap64 (x14_3 + 1)), (by first | rfl | (simp; done) | (simp [*]; done)), (by first | rfl | (simp; done) | (simp [*]; done)), H', ⟨by have := HK1.out; have := HK2.out; have := HK3.out; omega⟩, ⟨by (try simp only [hl8_1]); (with_reducible repeat (first | apply Kd.R_alloc | apply Kd.R_drewN | apply Kd.R_drew)); exact HO_12.out⟩, ⟨by repeat (first | (with_reducible first | exact HB.out | apply below_alloc | apply pw_below_drewN | apply below_drew1) | exact HB.out)⟩⟩
                              · rw [if_neg c18] at H
                                have c18b0 : ((rd (rd_L1 x8_1 x27_1) x14_3) == 32) = false := beq_eq_false_iff_ne.mpr c18
                                have c18b1 : ((rd (rd_L1 x8_1 x27_1) x14_3) != 32) = true := bne_iff_ne.mpr c18
                                by_cases c20 : (rd (rd_L1 x8_1 x27_1) x14_3) = 9
                                · rw [if_pos c20] at H
                                  have c20b0 : ((rd (rd_L1 x8_1 x27_1) x14_3) == 9) = true := beq_iff_eq.mpr c20
                                  have c20b1 : ((rd (rd_L1 x8_1 x27_1) x14_3) != 9) = false := bne_eq_false_iff_eq.mpr c20
                                  clear c20
                                  replace H := Option.bind_eq_some_iff.mp H
                                  obtain ⟨t404, A210, H⟩ := H
                                  replace H : (tinselref15_Unexpand.l2 k3 l1 a2 x8_1 t388 x27_1 (rd_L1 x8_1 x27_1) x12_2 t404 (wrap64 (x14_3 + 1)) x13_2 x14_2 (t387.length : Int) x27_1) = some (r1, r2) := H
                                  have A21 := Aside0.mk A210
                                  clear A210
                                  have H' := Aside0.mk H
                                  clear H
                                  have p399 : 0 ≤ (x14_3 : Int) := of_decide_eq_true (by first | (with_reducible assumption) | assumption)
                                  have q399 : x14_3 < ((rd_L1 x8_1 x27_1).length : Int) := of_decide_eq_true (by first | (with_reducible assumption) | assumption)
                                  obtain ⟨ad399, e399, hx399_0⟩ := Kd.at_int HR394_0.out x14_3 p399 q399
                                  cases e399
                                  replace hx399_0 := (HB.out.cell (World.block_lt_of_cell? w0 _ hx399_0)).trans hx399_0
                                  replace p399 := eq_true p399
                                  replace q399 := eq_true q399
                                  have p402 : 0 ≤ (x14_3 : Int) := of_decide_eq_true (by first | (with_reducible assumption) | assumption)
                                  have q402 : x14_3 < ((rd_L1 x8_1 x27_1).length : Int) := of_decide_eq_true (by first | (with_reducible assumption) | assumption)
                                  obtain ⟨ad402, e402, hx402_0⟩ := Kd.at_int HR394_0.out x14_3 p402 q402
                                  obtain rfl : ad399 = ad402 := (by injection e402)
                                  replace hx402_0 := (HB.out.cell (World.block_lt_of_cell? w0 _ hx402_0)).trans hx402_0
                                  replace p402 := eq_true p402
                                  replace q402 := eq_true q402
                                  have p403 : 0 ≤ (x14_3 : Int) := of_decide_eq_true (by first | (with_reducible assumption) | assumption)
                                  have q403 : x14_3 < ((rd_L1 x8_1 x27_1).length : Int) := of_decide_eq_true (by first | (with_reducible assumption) | assumption)
                                  obtain ⟨ad403, e403, hx403_0⟩ := Kd.at_int HR394_0.out x14_3 p403 q403
                                  obtain rfl : ad399 = ad403 := (by injection e403)
                                  replace hx403_0 := (HB.out.cell (World.block_lt_of_cell? w0 _ hx403_0)).trans hx403_0
                                  replace p403 := eq_true p403
                                  replace q403 := eq_true q403
                                  go_wp2_with (first | ((with_reducible refine gate_callee (f := 33) rfl ?_); refine goesL_ (some 63) rfl rfl Try.func33 (by kernel_rfl) rfl #[.int .i64 x13_3, .int .u8 (rd (rd_L1 x8_1 x27_1) x14_3), .slice A1 l1.length c1] rfl (by (try simp only [List.map_toArray, List.map_cons, List.map_nil]); first | done | rfl | (simp only [List.length_drop, List.length_take]; rfl)) ?_; (with_reducible refine (tinselref15_step.calls k3 x13_3 (rd (rd_L1 x8_1 x27_1) x14_3) _ _ l1 t404 _ ?side1 ?side2 A21.out).mono ?_); (case side1 => repeat (first | exact (Kd.C_below HR1.out HB.out) | (with_reducible refine Kd.C_alloc ?_ _) | (with_reducible refine Kd.C_drewN ?_ _) | (with_reducible refine Kd.C_drew ?_))); (case side2 => exact HC1.out); rintro e w' ⟨rfl, ⟨nd, rfl⟩⟩; refine ⟨_, rfl, ?_⟩))
                                  go_roundg k3
                                  case measure => have := HK1.out; have := HK2.out; have := HK3.out; omega
                                  case rel => exact ⟨(t404), (wrap64 (x14_3 + 1)), (by first | rfl | (simp; done) | (simp [*]; done)), (by first | rfl | (simp; done) | (simp [*]; done)), H', ⟨by have := HK1.out; have := HK2.out; have := HK3.out; omega⟩, ⟨by (try simp only [hl8_1]); (with_reducible repeat (first | apply Kd.R_alloc | apply Kd.R_drewN | apply Kd.R_drew)); exact HO_12.out⟩, ⟨by repeat (first | (with_reducible first | exact HB.out | apply below_alloc | apply pw_below_drewN | apply below_drew1) | exact HB.out)⟩⟩
                                · rw [if_neg c20] at H
                                  have c20b0 : ((rd (rd_L1 x8_1 x27_1) x14_3) == 9) = false := beq_eq_false_iff_ne.mpr c20
                                  have c20b1 : ((rd (rd_L1 x8_1 x27_1) x14_3) != 9) = true := bne_iff_ne.mpr c20
                                  have H' := Aside0.mk H
                                  clear H
                                  have p399 : 0 ≤ (x14_3 : Int) := of_decide_eq_true (by first | (with_reducible assumption) | assumption)
                                  have q399 : x14_3 < ((rd_L1 x8_1 x27_1).length : Int) := of_decide_eq_true (by first | (with_reducible assumption) | assumption)
                                  obtain ⟨ad399, e399, hx399_0⟩ := Kd.at_int HR394_0.out x14_3 p399 q399
                                  cases e399
                                  replace hx399_0 := (HB.out.cell (World.block_lt_of_cell? w0 _ hx399_0)).trans hx399_0
                                  replace p399 := eq_true p399
                                  replace q399 := eq_true q399
                                  have p402 : 0 ≤ (x14_3 : Int) := of_decide_eq_true (by first | (with_reducible assumption) | assumption)
                                  have q402 : x14_3 < ((rd_L1 x8_1 x27_1).length : Int) := of_decide_eq_true (by first | (with_reducible assumption) | assumption)
                                  obtain ⟨ad402, e402, hx402_0⟩ := Kd.at_int HR394_0.out x14_3 p402 q402
                                  obtain rfl : ad399 = ad402 := (by injection e402)
                                  replace hx402_0 := (HB.out.cell (World.block_lt_of_cell? w0 _ hx402_0)).trans hx402_0
                                  replace p402 := eq_true p402
                                  replace q402 := eq_true q402
                                  go_wp2
                                  go_meet
                                  case rel => exact ⟨_, (x13_3), (x14_3), (by first | rfl | (simp; done) | (simp [*]; done)), (by first | rfl | (simp; done) | (simp [*]; done)), H', ⟨by have := HK1.out; have := HK2.out; have := HK3.out; first | omega | exact Nat.le_refl _⟩, ⟨by (try simp only [hl8_1]); (with_reducible repeat (first | apply Kd.R_alloc | apply Kd.R_drewN | apply Kd.R_drew)); exact HO_12.out⟩, ⟨by repeat (first | (with_reducible first | exact HB.out | apply below_alloc | apply pw_below_drewN | apply below_drew1) | exact HB.out)⟩⟩
                            · rw [if_neg c17] at H
                              exact absurd H (by simp)
                          · rw [if_neg c16] at H
                            have c16b0 : decide (x14_3 < ((rd_L1 x8_1 x27_1).length : Int)) = false := decide_eq_false c16
                            clear c16
                            (first | rw [c16b0] | (simp only [i64_w, i32_w]; rw [c16b0]) | skip)
                            have H' := Aside0.mk H
                            clear H
                            go_wp2
                            go_meet
                            case rel => exact ⟨_, (x13_3), (x14_3), (by first | rfl | (simp; done) | (simp [*]; done)), (by first | rfl | (simp; done) | (simp [*]; done)), H', ⟨by have := HK1.out; have := HK2.out; have := HK3.out; first | omega | exact Nat.le_refl _⟩, ⟨by (try simp only [hl8_1]); (with_reducible repeat (first | apply Kd.R_alloc | apply Kd.R_drewN | apply Kd.R_drew)); exact HO_12.out⟩, ⟨by repeat (first | (with_reducible first | exact HB.out | apply below_alloc | apply pw_below_drewN | apply below_drew1) | exact HB.out)⟩⟩
                    case rest =>
                      clear HC15
                      try clear c1
                      try clear c2
                      try clear p2
                      try clear c3
                      try clear p3
                      try clear q3
                      try clear hx3
                      try clear p4
                      try clear q4
                      try clear hx4
                      try clear c5
                      try clear p6
                      try clear c7
                      try clear c9
                      try clear c9b0
                      try clear c10
                      try clear c10b0
                      try clear c11
                      try clear c11b0
                      try clear c14
                      try clear c14b0
                      try clear c15
                      try clear c16
                      try clear c16b0
                      try clear c17
                      try clear c17b0
                      try clear c18
                      try clear c18b0
                      try clear c18b1
                      try clear c19
                      try clear c20
                      try clear c20b0
                      try clear c20b1
                      try clear hx394_0
                      try clear hx399_0
                      try clear hx400_0
                      try clear hx402_0
                      try clear hx403_0
                      try clear p2
                      try clear p3
                      try clear p394
                      try clear p399
                      try clear p400
                      try clear p402
                      try clear p403
                      try clear q3
                      try clear q394
                      try clear q399
                      try clear q400
                      try clear q402
                      try clear q403
                      obtain ⟨kq, x13_14, x14_14, rfl, rfl, HA, HJ14, HO_12, HB⟩ := hcut
                      cases kq with
                      | zero => exact absurd HA.out (by simp [tinselref15_Unexpand.j3])
                      | succ kj14 =>
                        have H := HA.out
                        clear HA
                        simp only [tinselref15_Unexpand.j3] at H
                        by_cases c22 : x14_14 > x14_2
                        · rw [if_pos c22] at H
                          have c22b0 : decide (x14_2 < x14_14) = true := decide_eq_true c22
                          clear c22
                          have HC23 := Aside0.mk H
                          clear H
                          go_upto_region 15 with (fail)
                          go_cut [87] (fun v87 wc => ∃ (kq : Nat) (x87_22 : Bool), v87 = .bool x87_22 ∧ Aside0 (tinselref15_Unexpand.j4 kq l1 a2 x8_1 t388 x27_1 (rd_L1 x8_1 x27_1) x12_2 x13_14 x14_14 x13_2 x14_2 (t387.length : Int) x27_1 x87_22 = some (r1, r2)) ∧ Aside0 (kq ≤ kj14) ∧ Aside0 (Kd.R (Kd.int .u8) 5 wc w0.heap.size (fun _ => True) u12 x12_2) ∧ Aside0 (Below w0.heap.size w0 wc))
                          case first =>
                            have H := HC23.out
                            clear HC23
                            by_cases c24 : x14_2 > 0
                            · rw [if_pos c24] at H
                              have c24b0 : decide (0 < x14_2) = true := decide_eq_true c24
                              clear c24
                              (first | rw [c24b0] | (simp only [i64_w, i32_w]; rw [c24b0]) | skip)
                              by_cases c25 : a2 = true
                              · subst c25
                                have H1 : (if (wrap64 (x14_14 - x14_2)) = 1 then (if 0 ≤ x14_2 then (if x14_2 < ((rd_L1 x8_1 x27_1).length : Int) then (tinselref15_Unexpand.j4 kj14 l1 true x8_1 t388 x27_1 (rd_L1 x8_1 x27_1) x12_2 x13_14 x14_14 x13_2 x14_2 (t387.length : Int) x27_1 ((rd (rd_L1 x8_1 x27_1) x14_2) == 32)) else (none)) else (none)) else (tinselref15_Unexpand.j4 kj14 l1 true x8_1 t388 x27_1 (rd_L1 x8_1 x27_1) x12_2 x13_14 x14_14 x13_2 x14_2 (t387.length : Int) x27_1 false)) = some (r1, r2) := by rw [if_pos rfl] at H; exact H
                                clear H
                                have H := H1
                                clear H1
                                by_cases c26 : (wrap64 (x14_14 - x14_2)) = 1
                                · rw [if_pos c26] at H
                                  have c26b0 : ((wrap64 (x14_14 - x14_2)) == 1) = true := beq_iff_eq.mpr c26
                                  have c26b1 : ((wrap64 (x14_14 - x14_2)) != 1) = false := bne_eq_false_iff_eq.mpr c26
                                  clear c26
                                  by_cases c27 : 0 ≤ x14_2
                                  · rw [if_pos c27] at H
                                    have c27b0 : decide (0 ≤ x14_2) = true := decide_eq_true c27
                                    clear c27
                                    by_cases c28 : x14_2 < ((rd_L1 x8_1 x27_1).length : Int)
                                    · rw [if_pos c28] at H
                                      have c28b0 : decide (x14_2 < ((rd_L1 x8_1 x27_1).length : Int)) = true := decide_eq_true c28
                                      clear c28
                                      have H' := Aside0.mk H
                                      clear H
                                      have p405 : 0 ≤ (x14_2 : Int) := of_decide_eq_true (by first | (with_reducible assumption) | assumption)
                                      have q405 : x14_2 < ((rd_L1 x8_1 x27_1).length : Int) := of_decide_eq_true (by first | (with_reducible assumption) | assumption)
                                      obtain ⟨ad405, e405, hx405_0⟩ := Kd.at_int HR394_0.out x14_2 p405 q405
                                      cases e405
                                      replace hx405_0 := (HB.out.cell (World.block_lt_of_cell? w0 _ hx405_0)).trans hx405_0
                                      replace p405 := eq_true p405
                                      replace q405 := eq_true q405
                                      go_wp2
                                      go_meet
                                      case rel => exact ⟨_, (((rd (rd_L1 x8_1 x27_1) x14_2) == 32)), (by first | rfl | (simp; done) | (simp [*]; done)), H', ⟨by have := HK1.out; have := HK2.out; have := HJ14.out; first | omega | exact Nat.le_refl _⟩, ⟨by (try simp only [hl8_1]); (with_reducible repeat (first | apply Kd.R_alloc | apply Kd.R_drewN | apply Kd.R_drew)); exact HO_12.out⟩, ⟨by repeat (first | (with_reducible first | exact HB.out | apply below_alloc | apply pw_below_drewN | apply below_drew1) | exact HB.out)⟩⟩
                                    · rw [if_neg c28] at H
                                      exact absurd H (by simp)
                                  · rw [if_neg c27] at H
                                    exact absurd H (by simp)
                                · rw [if_neg c26] at H
                                  have c26b0 : ((wrap64 (x14_14 - x14_2)) == 1) = false := beq_eq_false_iff_ne.mpr c26
                                  have c26b1 : ((wrap64 (x14_14 - x14_2)) != 1) = true := bne_iff_ne.mpr c26
                                  have H' := Aside0.mk H
                                  clear H
                                  go_wp2
                                  go_meet
                                  case rel => exact ⟨_, (false), (by first | rfl | (simp; done) | (simp [*]; done)), H', ⟨by have := HK1.out; have := HK2.out; have := HJ14.out; first | omega | exact Nat.le_refl _⟩, ⟨by (try simp only [hl8_1]); (with_reducible repeat (first | apply Kd.R_alloc | apply Kd.R_drewN | apply Kd.R_drew)); exact HO_12.out⟩, ⟨by repeat (first | (with_reducible first | exact HB.out | apply below_alloc | apply pw_below_drewN | apply below_drew1) | exact HB.out)⟩⟩
                              · replace c25 := Bool.eq_false_iff.mpr c25
                                subst c25
                                have H1 : (tinselref15_Unexpand.j4 kj14 l1 false x8_1 t388 x27_1 (rd_L1 x8_1 x27_1) x12_2 x13_14 x14_14 x13_2 x14_2 (t387.length : Int) x27_1 true) = some (r1, r2) := by rw [if_neg (show ¬ (false = true) by decide)] at H; exact H
                                clear H
                                have H := H1
                                clear H1
                                have H' := Aside0.mk H
                                clear H
                                go_wp2
                                go_meet
                                case rel => exact ⟨_, (true), (by first | rfl | (simp; done) | (simp [*]; done)), H', ⟨by have := HK1.out; have := HK2.out; have := HJ14.out; first | omega | exact Nat.le_refl _⟩, ⟨by (try simp only [hl8_1]); (with_reducible repeat (first | apply Kd.R_alloc | apply Kd.R_drewN | apply Kd.R_drew)); exact HO_12.out⟩, ⟨by repeat (first | (with_reducible first | exact HB.out | apply below_alloc | apply pw_below_drewN | apply below_drew1) | exact HB.out)⟩⟩
                            · rw [if_neg c24] at H
                              have c24b0 : decide (0 < x14_2) = false := decide_eq_false c24
                              clear c24
                              (first | rw [c24b0] | (simp only [i64_w, i32_w]; rw [c24b0]) | skip)
                              have H' := Aside0.mk H
                              clear H
                              go_wp2
                              go_meet
                              case rel => exact ⟨_, (false), (by first | rfl | (simp; done) | (simp [*]; done)), H', ⟨by have := HK1.out; have := HK2.out; have := HJ14.out; first | omega | exact Nat.le_refl _⟩, ⟨by (try simp only [hl8_1]); (with_reducible repeat (first | apply Kd.R_alloc | apply Kd.R_drewN | apply Kd.R_drew)); exact HO_12.out⟩, ⟨by repeat (first | (with_reducible first | exact HB.out | apply below_alloc | apply pw_below_drewN | apply below_drew1) | exact HB.out)⟩⟩
                          case rest =>
                            clear HC23
                            try clear c1
                            try clear c2
                            try clear p2
                            try clear c3
                            try clear p3
                            try clear q3
                            try clear hx3
                            try clear p4
                            try clear q4
                            try clear hx4
                            try clear c5
                            try clear p6
                            try clear c7
                            try clear c9
                            try clear c9b0
                            try clear c10
                            try clear c10b0
                            try clear c11
                            try clear c11b0
                            try clear c14
                            try clear c14b0
                            try clear c15
                            try clear c16
                            try clear c16b0
                            try clear c17
                            try clear c17b0
                            try clear c18
                            try clear c18b0
                            try clear c18b1
                            try clear c19
                            try clear c20
                            try clear c20b0
                            try clear c20b1
                            try clear c22
                            try clear c22b0
                            try clear c24
                            try clear c24b0
                            try clear c25
                            try clear c26
                            try clear c26b0
                            try clear c26b1
                            try clear c27
                            try clear c27b0
                            try clear c28
                            try clear c28b0
                            try clear hx394_0
                            try clear hx399_0
                            try clear hx400_0
                            try clear hx402_0
                            try clear hx403_0
                            try clear hx405_0
                            try clear p2
                            try clear p3
                            try clear p394
                            try clear p399
                            try clear p4
                            try clear p400
                            try clear p402
                            try clear p403
                            try clear p405
                            try clear p6
                            try clear q3
                            try clear q394
                            try clear q399
                            try clear q4
                            try clear q400
                            try clear q402
                            try clear q403
                            try clear q405
                            obtain ⟨kq, x87_22, rfl, HA, HJ22, HO_12, HB⟩ := hcut
                            cases kq with
                            | zero => exact absurd HA.out (by simp [tinselref15_Unexpand.j4])
                            | succ kj22 =>
                              have H := HA.out
                              clear HA
                              simp only [tinselref15_Unexpand.j4] at H
                              by_cases c29 : x87_22 = true
                              · subst c29
                                have H1 : (if 0 ≤ x14_2 then (if x14_2 ≤ x14_14 then (if x14_14 ≤ ((rd_L1 x8_1 x27_1).length : Int) then (if x12_2.length + (((rd_L1 x8_1 x27_1).take (x14_14 : Int).toNat).drop (x14_2 : Int).toNat).length < 140737488355328 then (tinselref15_Unexpand.l1 kj22 l1 a2 x8_1 t388 x27_1 (rd_L1 x8_1 x27_1) (x12_2 ++ (((rd_L1 x8_1 x27_1).take (x14_14 : Int).toNat).drop (x14_2 : Int).toNat)) x13_14 x14_14 (t387.length : Int) x27_1) else (none)) else (none)) else (none)) else (none)) = some (r1, r2) := by rw [if_pos rfl] at H; exact H
                                clear H
                                have H := H1
                                clear H1
                                by_cases c30 : 0 ≤ x14_2
                                · rw [if_pos c30] at H
                                  have c30b0 := eq_true c30
                                  have c30b1 : decide (0 ≤ x14_2) = true := decide_eq_true c30
                                  clear c30
                                  by_cases c31 : x14_2 ≤ x14_14
                                  · rw [if_pos c31] at H
                                    have c31b0 := eq_true c31
                                    have c31b1 : decide (x14_2 ≤ x14_14) = true := decide_eq_true c31
                                    clear c31
                                    by_cases c32 : x14_14 ≤ ((rd_L1 x8_1 x27_1).length : Int)
                                    · rw [if_pos c32] at H
                                      have c32b0 := eq_true c32
                                      have c32b1 : decide (x14_14 ≤ ((rd_L1 x8_1 x27_1).length : Int)) = true := decide_eq_true c32
                                      clear c32
                                      by_cases c33 : x12_2.length + (((rd_L1 x8_1 x27_1).take (x14_14 : Int).toNat).drop (x14_2 : Int).toNat).length < 140737488355328
                                      · rw [if_pos c33] at H
                                        have LMc33 := Aside0.mk c33
                                        clear c33
                                        obtain ⟨y407, hy407⟩ : ∃ y_ : List Int, y_ = (x12_2 ++ (((rd_L1 x8_1 x27_1).take (x14_14 : Int).toNat).drop (x14_2 : Int).toNat)) := ⟨_, rfl⟩
                                        replace H : (tinselref15_Unexpand.l1 kj22 l1 a2 x8_1 t388 x27_1 (rd_L1 x8_1 x27_1) y407 x13_14 x14_14 (t387.length : Int) x27_1) = some (r1, r2) := by first | (rw [hy407]; with_reducible exact H) | (have H2_ := (Option.bind_some _ _).symm.trans H; rw [hy407]; with_reducible exact H2_) | (have H2_ := (Option.bind_some _ _).symm.trans H; with_reducible exact H2_) | with_reducible exact H | (rw [hy407]; exact H) | exact H
                                        have Ny407 := Aside0.mk hy407
                                        clear hy407
                                        have H' := Aside0.mk H
                                        clear H
                                        obtain ⟨i034, hi034, _, hsz34, _⟩ := info_parts info5
                                        obtain ⟨A34, hcut34, hA34, hC34⟩ := print_mid_of (P := Try.prog) (Value.int .u8) 0 22 5 .i64 .i64 Try.underlying22 hi034 hsz34 A394_0 c394_0 (rd_L1 x8_1 x27_1) x14_2 x14_14 (of_decide_eq_true (by first | (with_reducible assumption) | assumption)) (by first | omega | exact of_decide_eq_true (by first | (with_reducible assumption) | assumption)) (of_decide_eq_true (by first | (with_reducible assumption) | assumption)) HC394_0.out
                                        have HR406 := Aside0.mk (Kd.C_of_reads (h1 := fun _ => rfl) (hA34 _ (Kd.reads_of_C HR394_0.out)))
                                        have HC406 := Aside0.mk hC34
                                        clear hA34 hC34 hi034 hsz34
                                        go_wp2_with (first | ((with_reducible refine gate_builtin (b := .append) (xs := #[.tmp 88, .tmp 92]) rfl ?_); at_builtin; refine Kd.R_append_rows (Kd.int .u8) (w0 := w0) w0.heap.size rfl (.tmp 88) (.tmp 92) 22 5 (.int .u8 0) 1 rfl Try.underlying22 info5 rfl (by decide) (by omega) u12 x12_2 (((rd_L1 x8_1 x27_1).take (x14_14 : Int).toNat).drop (x14_2 : Int).toNat) _ _ _ (fun _ => True) (fun _ => False) rfl rfl ?aO ?aR (fun _ _ h => h) (fun _ h => h.elim) ?aF ?aB ?aS ?aL ?_; (case aR => first | (rw [← show (((rd_L1 x8_1 x27_1).take (x14_14 : Int).toNat).drop (x14_2 : Int).toNat).length = (x14_14.toNat - x14_2.toNat) from (by rw [List.length_drop, List.length_take]; have h_ : (x14_14 : Int) ≤ ((rd_L1 x8_1 x27_1).length : Int) := of_decide_eq_true (by first | (with_reducible assumption) | assumption); omega)]; repeat (first | exact (Kd.C_below HR406.out HB.out) | (with_reducible refine Kd.C_alloc ?_ _) | (with_reducible refine Kd.C_drewN ?_ _) | (with_reducible refine Kd.C_drew ?_))) | (repeat (first | exact (Kd.C_below HR406.out HB.out) | (with_reducible refine Kd.C_alloc ?_ _) | (with_reducible refine Kd.C_drewN ?_ _) | (with_reducible refine Kd.C_drew ?_)))); (case aB => exact (by repeat (first | (with_reducible first | exact HB.out | apply below_alloc | apply pw_below_drewN | apply below_drew1) | exact HB.out))); (case aF => exact (fun _ _ => trivial)); (case aO => exact (by (with_reducible repeat (first | apply Kd.R_alloc | apply Kd.R_drewN | apply Kd.R_drew)); exact HO_12.out)); (case aS => exact (below_size (by repeat (first | (with_reducible first | exact HB.out | apply below_alloc | apply pw_below_drewN | apply below_drew1) | exact HB.out)))); (case aL => have := LMc33.out; have hlx_ := (show (((rd_L1 x8_1 x27_1).take (x14_14 : Int).toNat).drop (x14_2 : Int).toNat).length = (x14_14.toNat - x14_2.toNat) from (by rw [List.length_drop, List.length_take]; have h_ : (x14_14 : Int) ≤ ((rd_L1 x8_1 x27_1).length : Int) := of_decide_eq_true (by first | (with_reducible assumption) | assumption); omega)); omega); intro v408 w35 ho hb hg hat; rw [← Ny407.out] at ho; have n1_ := Aside0.mk (hb); have n2_ := Aside0.mk (ho); clear HB; clear HO_12; have HB := n1_; have HO409 := n2_; clear n1_ n2_; clear ho hb hg hat))
                                        go_roundg kj22
                                        case measure => have := HK1.out; have := HK2.out; have := HJ14.out; have := HJ22.out; omega
                                        case rel => exact ⟨(y407), (x13_14), (x14_14), (by first | rfl | (simp; done) | (simp [*]; done)), (by first | rfl | (simp; done) | (simp [*]; done)), H', ⟨by have := HK1.out; have := HK2.out; have := HJ14.out; have := HJ22.out; omega⟩, ⟨by (try simp only [hl8_1]); (with_reducible repeat (first | apply Kd.R_alloc | apply Kd.R_drewN | apply Kd.R_drew)); exact HO409.out⟩, ⟨by repeat (first | (with_reducible first | exact HB.out | apply below_alloc | apply pw_below_drewN | apply below_drew1) | exact HB.out)⟩⟩
                                      · rw [if_neg c33] at H
                                        exact absurd H (by simp)
                                    · rw [if_neg c32] at H
                                      exact absurd H (by simp)
                                  · rw [if_neg c31] at H
                                    exact absurd H (by simp)
                                · rw [if_neg c30] at H
                                  exact absurd H (by simp)
                              · replace c29 := Bool.eq_false_iff.mpr c29
                                subst c29
                                have H1 : ((tinselref15_run.f kj22 x13_2 x13_14 l1).bind fun t410 => (if x12_2.length + t410.length < 140737488355328 then (tinselref15_Unexpand.l1 kj22 l1 a2 x8_1 t388 x27_1 (rd_L1 x8_1 x27_1) (x12_2 ++ t410) x13_14 x14_14 (t387.length : Int) x27_1) else (none))) = some (r1, r2) := by rw [if_neg (show ¬ (false = true) by decide)] at H; exact H
                                clear H
                                have H := H1
                                clear H1
                                replace H := Option.bind_eq_some_iff.mp H
                                obtain ⟨t410, A360, H⟩ := H
                                replace H : (if x12_2.length + t410.length < 140737488355328 then (tinselref15_Unexpand.l1 kj22 l1 a2 x8_1 t388 x27_1 (rd_L1 x8_1 x27_1) (x12_2 ++ t410) x13_14 x14_14 (t387.length : Int) x27_1) else (none)) = some (r1, r2) := H
                                have A36 := Aside0.mk A360
                                clear A360
                                by_cases c37 : x12_2.length + t410.length < 140737488355328
                                · rw [if_pos c37] at H
                                  have LMc37 := Aside0.mk c37
                                  clear c37
                                  obtain ⟨y413, hy413⟩ : ∃ y_ : List Int, y_ = (x12_2 ++ t410) := ⟨_, rfl⟩
                                  replace H : (tinselref15_Unexpand.l1 kj22 l1 a2 x8_1 t388 x27_1 (rd_L1 x8_1 x27_1) y413 x13_14 x14_14 (t387.length : Int) x27_1) = some (r1, r2) := by first | (rw [hy413]; with_reducible exact H) | (have H2_ := (Option.bind_some _ _).symm.trans H; rw [hy413]; with_reducible exact H2_) | (have H2_ := (Option.bind_some _ _).symm.trans H; with_reducible exact H2_) | with_reducible exact H | (rw [hy413]; exact H) | exact H
                                  have Ny413 := Aside0.mk hy413
                                  clear hy413
                                  have H' := Aside0.mk H
                                  clear H
                                  go_wp2_with (first | ((with_reducible refine gate_callee (f := 37) rfl ?_); refine goesL_ (some 98) rfl rfl Try.func37 (by kernel_rfl) rfl #[.int .i64 x13_2, .int .i64 x13_14, .slice A1 l1.length c1] rfl (by (try simp only [List.map_toArray, List.map_cons, List.map_nil]); first | done | rfl | (simp only [List.length_drop, List.length_take]; rfl)) ?_; (with_reducible refine (tinselref15_run.calls kj22 x13_2 x13_14 _ _ l1 t410 _ ?side1 ?side2 A36.out).mono ?_); (case side1 => repeat (first | exact (Kd.C_below HR1.out HB.out) | (with_reducible refine Kd.C_alloc ?_ _) | (with_reducible refine Kd.C_drewN ?_ _) | (with_reducible refine Kd.C_drew ?_))); (case side2 => exact HC1.out); rintro e w38 ⟨v411, rfl, ho0, hb⟩; refine ⟨_, rfl, ?_⟩; have n1_ := Aside0.mk (Kd.R_elder' (by (with_reducible repeat (first | apply Kd.R_alloc | apply Kd.R_drewN | apply Kd.R_drew)); exact HO_12.out) (Kd.R_base ho0) hb); have n2_ := Aside0.mk (Kd.R_lower (Kd.R_new' ho0 (Kd.R_lt (by (with_reducible repeat (first | apply Kd.R_alloc | apply Kd.R_drewN | apply Kd.R_drew)); exact HO_12.out))) (below_size (by repeat (first | (with_reducible first | exact HB.out | apply below_alloc | apply pw_below_drewN | apply below_drew1) | exact HB.out)))); have n3_ := Aside0.mk (below_step (by repeat (first | (with_reducible first | exact HB.out | apply below_alloc | apply pw_below_drewN | apply below_drew1) | exact HB.out)) hb); clear HO_12; clear HB; have HO_12 := n1_; have HO412 := n2_; have HB := n3_; clear n1_ n2_ n3_; (try clear hb); (try clear hb2); (try clear hk); (try clear hi); (try clear ho0); obtain ⟨Ao40, co40, eo40⟩ := Kd.R_slice HO412.out; subst eo40) | ((with_reducible refine gate_builtin (b := .append) (xs := #[.tmp 94, .tmp 98]) rfl ?_); at_builtin; refine Kd.R_append_rows (Kd.int .u8) (w0 := w0) w0.heap.size rfl (.tmp 94) (.tmp 98) 22 5 (.int .u8 0) 1 rfl Try.underlying22 info5 rfl (by decide) (by omega) u12 x12_2 t410 _ _ _ (fun k_ => some k_ ≠ (.slice Ao40 t410.length co40 : Value).ownBlock) (fun _ => False) rfl rfl ?aO ?aR (fun _ _ h => h) (fun _ h => h.elim) ?aF ?aB ?aS ?aL ?_; (case aR => repeat (first | exact (Kd.R_reads' HO412.out).2.2 | (with_reducible refine Kd.C_alloc ?_ _) | (with_reducible refine Kd.C_drewN ?_ _) | (with_reducible refine Kd.C_drew ?_))); (case aB => exact (by repeat (first | (with_reducible first | exact HB.out | apply below_alloc | apply pw_below_drewN | apply below_drew1) | exact HB.out))); (case aF => exact (fun k_ hk => Kd.fresh' (Kd.R_lt (by (with_reducible repeat (first | apply Kd.R_alloc | apply Kd.R_drewN | apply Kd.R_drew)); exact HO412.out)) k_ hk)); (case aO => exact (by (with_reducible repeat (first | apply Kd.R_alloc | apply Kd.R_drewN | apply Kd.R_drew)); exact Kd.R_mono HO_12.out (fun _ hk => hk.2))); (case aS => exact (below_size (by repeat (first | (with_reducible first | exact HB.out | apply below_alloc | apply pw_below_drewN | apply below_drew1) | exact HB.out)))); (case aL => have := LMc37.out; omega); intro v414 w39 ho hb hg hat; rw [← Ny413.out] at ho; have n1_ := Aside0.mk (Kd.R_after (ok := (fun _ => True)) (by (with_reducible repeat (first | apply Kd.R_alloc | apply Kd.R_drewN | apply Kd.R_drew)); exact HO412.out) hg hat); have n2_ := Aside0.mk (hb); have n3_ := Aside0.mk (ho); clear HO412; clear HB; clear HO_12; have HO412 := n1_; have HB := n2_; have HO415 := n3_; clear n1_ n2_ n3_; clear ho hb hg hat))
                                  go_roundg kj22
                                  case measure => have := HK1.out; have := HK2.out; have := HJ14.out; have := HJ22.out; omega
                                  case rel => exact ⟨(y413), (x13_14), (x14_14), (by first | rfl | (simp; done) | (simp [*]; done)), (by first | rfl | (simp; done) | (simp [*]; done)), H', ⟨by have := HK1.out; have := HK2.out; have := HJ14.out; have := HJ22.out; omega⟩, ⟨by (try simp only [hl8_1]); (with_reducible repeat (first | apply Kd.R_alloc | apply Kd.R_drewN | apply Kd.R_drew)); exact Kd.R_mono HO415.out (fun _ hk => trivial)⟩, ⟨by repeat (first | (with_reducible first | exact HB.out | apply below_alloc | apply pw_below_drewN | apply below_drew1) | exact HB.out)⟩⟩
                                · rw [if_neg c37] at H
                                  exact absurd H (by simp)
                        · rw [if_neg c22] at H
                          have c22b0 : decide (x14_2 < x14_14) = false := decide_eq_false c22
                          clear c22
                          by_cases c41 : 0 ≤ x14_14
                          · rw [if_pos c41] at H
                            have c41b0 : decide (0 ≤ x14_14) = true := decide_eq_true c41
                            clear c41
                            by_cases c42 : x14_14 < ((rd_L1 x8_1 x27_1).length : Int)
                            · rw [if_pos c42] at H
                              have c42b0 : decide (x14_14 < ((rd_L1 x8_1 x27_1).length : Int)) = true := decide_eq_true c42
                              clear c42
                              by_cases c43 : x12_2.length < 140737488355328
                              · rw [if_pos c43] at H
                                have LMc43 := Aside0.mk c43
                                clear c43
                                obtain ⟨y417, hy417⟩ : ∃ y_ : List Int, y_ = (x12_2 ++ [rd (rd_L1 x8_1 x27_1) x14_14]) := ⟨_, rfl⟩
                                replace H : ((tinselref15_step.f kj14 x13_14 (rd (rd_L1 x8_1 x27_1) x14_14) l1).bind fun t421 => (tinselref15_Unexpand.l1 kj14 l1 a2 x8_1 t388 x27_1 (rd_L1 x8_1 x27_1) y417 t421 (wrap64 (x14_14 + 1)) (t387.length : Int) x27_1)) = some (r1, r2) := by first | (rw [hy417]; with_reducible exact H) | (have H2_ := (Option.bind_some _ _).symm.trans H; rw [hy417]; with_reducible exact H2_) | (have H2_ := (Option.bind_some _ _).symm.trans H; with_reducible exact H2_) | with_reducible exact H | (rw [hy417]; exact H) | exact H
                                have Ny417 := Aside0.mk hy417
                                clear hy417
                                replace H := Option.bind_eq_some_iff.mp H
                                obtain ⟨t421, A440, H⟩ := H
                                replace H : (tinselref15_Unexpand.l1 kj14 l1 a2 x8_1 t388 x27_1 (rd_L1 x8_1 x27_1) y417 t421 (wrap64 (x14_14 + 1)) (t387.length : Int) x27_1) = some (r1, r2) := H
                                have A44 := Aside0.mk A440
                                clear A440
                                have H' := Aside0.mk H
                                clear H
                                have p416 : 0 ≤ (x14_14 : Int) := of_decide_eq_true (by first | (with_reducible assumption) | assumption)
                                have q416 : x14_14 < ((rd_L1 x8_1 x27_1).length : Int) := of_decide_eq_true (by first | (with_reducible assumption) | assumption)
                                obtain ⟨ad416, e416, hx416_0⟩ := Kd.at_int HR394_0.out x14_14 p416 q416
                                cases e416
                                replace hx416_0 := (HB.out.cell (World.block_lt_of_cell? w0 _ hx416_0)).trans hx416_0
                                replace p416 := eq_true p416
                                replace q416 := eq_true q416
                                go_wp2_with (first | ((with_reducible refine gate_builtin (b := .append) (xs := #[.tmp 100, .tmp 105]) rfl ?_); at_builtin; refine Kd.R_append (Kd.int .u8) (w0 := w0) w0.heap.size rfl (.tmp 100) (.tmp 105) 22 5 (.int .u8 0) 1 rfl Try.underlying22 info5 rfl (by decide) (by omega) u12 x12_2 (rd (rd_L1 x8_1 x27_1) x14_14) [.int .u8 (rd (rd_L1 x8_1 x27_1) x14_14)] (fun _ => True) (fun _ => False) rfl rfl ?aP (fun _ hk => hk.elim) ?aF ?aO ?aB ?aS ?aL ?_; (case aP => exact rfl); (case aB => exact (by repeat (first | (with_reducible first | exact HB.out | apply below_alloc | apply pw_below_drewN | apply below_drew1) | exact HB.out))); (case aF => exact (fun _ _ => trivial)); (case aO => exact (by (with_reducible repeat (first | apply Kd.R_alloc | apply Kd.R_drewN | apply Kd.R_drew)); exact HO_12.out)); (case aS => exact (below_size (by repeat (first | (with_reducible first | exact HB.out | apply below_alloc | apply pw_below_drewN | apply below_drew1) | exact HB.out)))); (case aL => have := LMc43.out; omega); intro v418 w45 ho hb hg hat; rw [← Ny417.out] at ho; have n1_ := Aside0.mk (hb); have n2_ := Aside0.mk (ho); clear HB; clear HO_12; have HB := n1_; have HO419 := n2_; clear n1_ n2_; clear ho hb hg hat; have p420 : 0 ≤ (x14_14 : Int) := of_decide_eq_true (by first | (with_reducible assumption) | assumption); have q420 : x14_14 < ((rd_L1 x8_1 x27_1).length : Int) := of_decide_eq_true (by first | (with_reducible assumption) | assumption); obtain ⟨ad420, e420, hx420_0⟩ := Kd.at_int HR394_0.out x14_14 p420 q420; obtain rfl : ad416 = ad420 := (by injection e420); replace hx420_0 := (HB.out.cell (World.block_lt_of_cell? w0 _ hx420_0)).trans hx420_0; replace p420 := eq_true p420; replace q420 := eq_true q420) | ((with_reducible refine gate_callee (f := 33) rfl ?_); refine goesL_ (some 113) rfl rfl Try.func33 (by kernel_rfl) rfl #[.int .i64 x13_14, .int .u8 (rd (rd_L1 x8_1 x27_1) x14_14), .slice A1 l1.length c1] rfl (by (try simp only [List.map_toArray, List.map_cons, List.map_nil]); first | done | rfl | (simp only [List.length_drop, List.length_take]; rfl)) ?_; (with_reducible refine (tinselref15_step.calls kj14 x13_14 (rd (rd_L1 x8_1 x27_1) x14_14) _ _ l1 t421 _ ?side1 ?side2 A44.out).mono ?_); (case side1 => repeat (first | exact (Kd.C_below HR1.out HB.out) | (with_reducible refine Kd.C_alloc ?_ _) | (with_reducible refine Kd.C_drewN ?_ _) | (with_reducible refine Kd.C_drew ?_))); (case side2 => exact HC1.out); rintro e w' ⟨rfl, ⟨nd, rfl⟩⟩; refine ⟨_, rfl, ?_⟩))
                                go_roundg kj14
                                case measure => have := HK1.out; have := HK2.out; have := HJ14.out; omega
                                case rel => exact ⟨(y417), (t421), (wrap64 (x14_14 + 1)), (by first | rfl | (simp; done) | (simp [*]; done)), (by first | rfl | (simp; done) | (simp [*]; done)), H', ⟨by have := HK1.out; have := HK2.out; have := HJ14.out; omega⟩, ⟨by (try simp only [hl8_1]); (with_reducible repeat (first | apply Kd.R_alloc | apply Kd.R_drewN | apply Kd.R_drew)); exact HO419.out⟩, ⟨by repeat (first | (with_reducible first | exact HB.out | apply below_alloc | apply pw_below_drewN | apply below_drew1) | exact HB.out)⟩⟩
                              · rw [if_neg c43] at H
                                exact absurd H (by simp)
                            · rw [if_neg c42] at H
                              exact absurd H (by simp)
                          · rw [if_neg c41] at H
                            exact absurd H (by simp)
                  · rw [if_neg c14] at H
                    have c14b0 : decide (x14_2 < ((rd_L1 x8_1 x27_1).length : Int)) = false := decide_eq_false c14
                    clear c14
                    by_cases c46 : 0 ≤ x27_1
                    · rw [if_pos c46] at H
                      have c46b0 : decide (0 ≤ x27_1) = true := decide_eq_true c46
                      clear c46
                      by_cases c47 : x27_1 < (x8_1.length : Int)
                      · rw [if_pos c47] at H
                        have c47b0 : decide (x27_1 < (x8_1.length : Int)) = true := decide_eq_true c47
                        clear c47
                        obtain ⟨y398, hy398⟩ : ∃ y_ : List (List Int), y_ = (x8_1.set (x27_1 : Int).toNat x12_2) := ⟨_, rfl⟩
                        replace H : (tinselref15_Unexpand.l0 k2 l1 a2 y398 t388 (t387.length : Int) (wrap64 (x27_1 + 1))) = some (r1, r2) := by first | (rw [hy398]; with_reducible exact H) | (have H2_ := (Option.bind_some _ _).symm.trans H; rw [hy398]; with_reducible exact H2_) | (have H2_ := (Option.bind_some _ _).symm.trans H; with_reducible exact H2_) | with_reducible exact H | (rw [hy398]; exact H) | exact H
                        have Ny398 := Aside0.mk hy398
                        clear hy398
                        have H' := Aside0.mk H
                        clear H
                        obtain ⟨Au, cu, eu⟩ := Kd.R_slice HO_12.out
                        subst eu
                        have n0_ := Aside0.mk (Kd.N_mono (ok' := fun k_ => some k_ ≠ (Value.slice Au x12_2.length cu).ownBlock) (Kd.N_elder' HN0.out (Kd.R_base HO_12.out) HB.out) (fun _ hk => hk.2))
                        have n1_ := Aside0.mk (Kd.R_lower HO_12.out (below_size HBo.out))
                        have n2_ := Aside0.mk (below_step HBo.out HB.out)
                        clear HO_12 HB
                        have HO_8 := n0_; have HO_12 := n1_; have HB := n2_; clear n0_ n1_ n2_
                        have p48 : 0 ≤ (x27_1 : Int) := of_decide_eq_true (by first | (with_reducible assumption) | assumption)
                        have q48 : (x27_1 : Int) < ((x8_1.length : Int) : Int) := of_decide_eq_true (by first | (with_reducible assumption) | assumption)
                        obtain ⟨go48, co48, eo48, gb48, gl48, cl48, HG48⟩ := Kd.N_form HO_8.out (by omega)
                        (first | cases eo48 | (injection eo48 with ea_ en_ ec_; (first | subst ea_ | (injection ea_ with ea_; subst ea_)); subst ec_; clear en_))
                        have GB48 := Aside0.mk gb48
                        have GG48 := Aside0.mk HG48
                        clear gb48 gl48 HG48
                        (first | simp only [add_plain] at hx394_0 | skip)
                        obtain ⟨ce48, hcl48, hM48, hcc48, hfr48⟩ := Kd.N_elem HO_8.out [] (x27_1 : Int) p48 q48
                        obtain ⟨ua48_0, uc48_0, rfl, ul48_0, ge48_0⟩ := Kd.FK_slice_open hM48
                        have hx48_0 := hcc48 0 _ rfl
                        have hf48_0 := hfr48 0
                        (try simp only [show ((Kd.slice 5 (Kd.int .u8))).sz = 1 from rfl, Nat.mul_one, Nat.add_zero] at hx48_0)
                        (try simp only [show ((Kd.slice 5 (Kd.int .u8))).sz = 1 from rfl, Nat.mul_one, Nat.add_zero] at hf48_0)
                        clear hcl48 hcc48 hfr48 hM48
                        replace p48 := eq_true p48
                        replace q48 := eq_true q48
                        have HX49 := Aside0.mk (show Kd.N (Kd.slice 5 (Kd.int .u8)) 22 wr w.heap.size (fun _ => True) (.slice (some ⟨go48, 0, none⟩) x8_1.length co8) x8_1 from (by (with_reducible repeat (first | apply Kd.N_alloc | apply Kd.N_drewN | apply Kd.N_drew)); exact Kd.N_mono HO_8.out (fun _ hk => trivial)))
                        obtain ⟨ce49, hcl49, hM49, hcc49, hfr49⟩ := Kd.N_elem HX49.out [] (x27_1 : Int) (of_decide_eq_true (by first | (with_reducible assumption) | assumption)) (by have h_ : (x27_1 : Int) < ((x8_1.length : Int) : Int) := of_decide_eq_true (by first | (with_reducible assumption) | assumption); first | exact h_ | (have e_ := (Kd.N_reads' HO_8.out).1; omega) | simpa using h_)
                        obtain ⟨ua49_0, uc49_0, rfl, ul49_0, ge49_0⟩ := Kd.FK_slice_open hM49
                        have HRu := Kd.R_mono (ok' := (fun k_ => True ∧ k_ ≠ go48)) (Kd.R_apart' HO_12.out (Kd.N_typed HO_8.out) (by decide)) (fun k_ hk => ⟨trivial, fun e_ => hk.2 (by rw [e_]; rfl)⟩)
                        have HFu := Kd.FK_slice_mk (e := 5) (Kd.R_reads' HRu).2.1 (Kd.R_F HRu)
                        have HP49 := Kd.N_seg HX49.out (x27_1 : Int) (of_decide_eq_true (by first | (with_reducible assumption) | assumption)) (by have h_ : (x27_1 : Int) < ((x8_1.length : Int) : Int) := of_decide_eq_true (by first | (with_reducible assumption) | assumption); first | exact h_ | (have e_ := (Kd.N_reads' HO_8.out).1; omega) | simpa using h_) (seg := [Value.slice Au x12_2.length cu]) (j := 0) hcl49 hcc49 (show 1 ≤ 1 from by decide) (x' := x12_2) (okp := (fun k_ => True ∧ k_ ≠ go48)) HFu (fun _ hk => hk)
                        have hx49_0 := hcc49 0 _ rfl
                        (try simp only [show ((Kd.slice 5 (Kd.int .u8))).sz = 1 from rfl, Nat.mul_one, Nat.add_zero] at hx49_0)
                        have hf49_0 := hfr49 0
                        (try simp only [show ((Kd.slice 5 (Kd.int .u8))).sz = 1 from rfl, Nat.mul_one, Nat.add_zero] at hf49_0)
                        clear hcl49 hcc49 hfr49 hM49
                        (try simp only [show ((Kd.slice 5 (Kd.int .u8))).sz = 1 from rfl, Nat.mul_one, Nat.add_zero] at HP49)
                        (try simp only [show ((Kd.slice 5 (Kd.int .u8))).sz = 1 from rfl, Nat.mul_one, Nat.add_zero] at HP49)
                        go_wp2_with (first | ((with_reducible refine gate_store (t := 22) (p := 119) rfl ?_); refine store_event (t := 22) (p := 119) (v := ?vo_w50) (w1 := (wr.setCell ⟨go48, (x27_1 : Int).toNat, none⟩ ((Value.slice Au x12_2.length cu)))) ?hg ?ho ?hn ?hr ?_; (case ho => rfl); (case hg => rfl); (case hn => rfl); (case hr => first | (go_simp; done) | (go_simp; rfl)); intro w50 hw; have hg : wr.grownBy w50 (some go48) := (by rw [hw]; exact HP49.2); have hp_ : Kd.N (Kd.slice 5 (Kd.int .u8)) 22 w50 w.heap.size (fun _ => True) (.slice (some ⟨go48, 0, none⟩) x8_1.length co8) y398 := (by rw [hw, Ny398.out]; exact HP49.1); clear HP49; have n0_ := Aside0.mk (hp_); have n1_ := Aside0.mk ((by rw [hw]; exact below_set (HB.out) GB48.out : Below w.heap.size w w50)); clear HO_8; clear HB; clear HO_12; have HO_8 := n0_; have HB := n1_; clear n0_ n1_; clear hg hw hp_))
                        (try simp only [← hl8_1])
                        go_roundg k2
                        case measure => have := HK1.out; have := HK2.out; omega
                        case rel => exact ⟨(y398), (wrap64 (x27_1 + 1)), (by first | rfl | (simp; done) | (simp [*]; done)), H', ⟨by have := HK1.out; have := HK2.out; omega⟩, ⟨by (try simp only [hl8_1]); (with_reducible repeat (first | apply Kd.N_alloc | apply Kd.N_drewN | apply Kd.N_drew)); exact HO_8.out⟩, ⟨by repeat (first | (with_reducible first | exact HB.out | apply below_alloc | apply pw_below_drewN | apply below_drew1) | exact HB.out)⟩⟩
                      · rw [if_neg c47] at H
                        exact absurd H (by simp)
                    · rw [if_neg c46] at H
                      exact absurd H (by simp)
            · rw [if_neg c11] at H
              exact absurd H (by simp)
          · rw [if_neg c10] at H
            exact absurd H (by simp)
        · rw [if_neg c9] at H
          have c9b0 : decide (x27_1 < (t387.length : Int)) = false := decide_eq_false c9
          rw [hl8_1] at c9b0
          clear c9
          replace H := Option.bind_eq_some_iff.mp H
          obtain ⟨t391, A510, H⟩ := H
          replace H : (some (t391, 0)) = some (r1, r2) := H
          have A51 := Aside0.mk A510
          clear A510
          simp only [Option.some.injEq, Prod.mk.injEq] at H
          obtain ⟨rfl, rfl⟩ := H
          go_wp2_with (first | ((with_reducible refine gate_callee (f := 11) rfl ?_); refine goesL_ (some 123) rfl rfl Try.func11 (by kernel_rfl) rfl #[.slice Ao8 x8_1.length co8, .bool t388] rfl (by (try simp only [List.map_toArray, List.map_cons, List.map_nil]); first | done | rfl | (simp only [List.length_drop, List.length_take]; rfl)) ?_; (with_reducible refine (tinselref15_Whole.calls k1 _ _ x8_1 t388 t391 _ ?side1 ?side2 A51.out).mono ?_); (case side1 => repeat (first | exact (Kd.N_reads' HO_8.out).2.2 | (with_reducible refine Kd.C_alloc ?_ _) | (with_reducible refine Kd.C_drewN ?_ _) | (with_reducible refine Kd.C_drew ?_))); (case side2 => exact (Kd.N_reads' HO_8.out).2.1); rintro e w52 ⟨v392, rfl, ho0, hb⟩; refine ⟨_, rfl, ?_⟩; have n0_ := Aside0.mk (Kd.N_elder' (by (with_reducible repeat (first | apply Kd.N_alloc | apply Kd.N_drewN | apply Kd.N_drew)); exact HO_8.out) (Kd.R_base ho0) hb); have n1_ := Aside0.mk (Kd.R_lower ho0 (below_size (by repeat (first | (with_reducible first | exact HB.out | apply below_alloc | apply pw_below_drewN | apply below_drew1) | exact HB.out)))); have n2_ := Aside0.mk (below_step (by repeat (first | (with_reducible first | exact HB.out | apply below_alloc | apply pw_below_drewN | apply below_drew1) | exact HB.out)) hb); clear HO_8; clear HB; have HO_8 := n0_; have HO393 := n1_; have HB := n2_; clear n0_ n1_ n2_; (try clear hb); (try clear hb2); (try clear hk); (try clear hi); (try clear ho0)))
          go_ret2
          exact ⟨_, by first | rfl | (simp [errW_none, errW_some] <;> rfl) | (simp [*, errW_none, errW_some] <;> rfl), by (with_reducible repeat (first | apply Kd.R_alloc | apply Kd.R_drewN | apply Kd.R_drew)); exact HO393.out, by repeat (first | (with_reducible first | exact HB.out | apply below_alloc | apply pw_below_drewN | apply below_drew1) | exact HB.out)⟩
  · replace c5 := Bool.eq_false_iff.mpr c5
    subst c5
    have H1 : (some (([] : List Int), 22)) = some (r1, r2) := by rw [if_neg (show ¬ (false = true) by decide)] at H; exact H
    clear H
    have H := H1
    clear H1
    simp only [Option.some.injEq, Prod.mk.injEq] at H
    obtain ⟨rfl, rfl⟩ := H
    go_enter Try.func19, Try.ntmps19
    go_wp2_with (first | ((with_reducible refine gate_callee (f := 15) rfl ?_); refine goesL_ (some 18) rfl rfl Try.func15 (by kernel_rfl) rfl #[.slice A1 l1.length c1] rfl (by (try simp only [List.map_toArray, List.map_cons, List.map_nil]); first | done | rfl | (simp only [List.length_drop, List.length_take]; rfl)) ?_; (with_reducible refine (tinselref15_Stops.calls k _ _ l1 false _ ?side1 ?side2 A4.out).mono ?_); (case side1 => repeat (first | exact HR1.out | (with_reducible refine Kd.C_alloc ?_ _) | (with_reducible refine Kd.C_drewN ?_ _) | (with_reducible refine Kd.C_drew ?_))); (case side2 => exact HC1.out); rintro e w' ⟨rfl, ⟨nd, rfl⟩⟩; refine ⟨_, rfl, ?_⟩))
    go_ret2
    exact ⟨_, by first | rfl | (simp [errW_none, errW_some] <;> rfl) | (simp [*, errW_none, errW_some] <;> rfl), by first | exact Kd.R_nil _ _ _ _ _ | exact Kd.N_nil _ _ _ _ _ | exact Kd.V_nil _ _ _ _ _ | exact Kd.Q_nil _ _ _ _ _ | exact Kd.S_nil _ _ _ _ _, by repeat (first | (with_reducible first | exact HB.out | apply below_alloc | apply pw_below_drewN | apply below_drew1) | exact HB.out)⟩

end Go.Proofs.Ytkfpghggejikiaa.P
