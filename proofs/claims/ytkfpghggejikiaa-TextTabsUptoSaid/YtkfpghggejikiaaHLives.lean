/-
  tinsellaw15.lives: the document's examples are as it says: where Count, Fold and Head answer so, lives returns true.
-/
import Derived.Test.YtkfpghggejikiaaPx5
import Derived.Test.YtkfpghggejikiaaPx6
import Derived.Test.YtkfpghggejikiaaHEach
import Derived.Lib.SlBytesConst
namespace Go.Proofs.Ytkfpghggejikiaa.P
open Go.RowKit Go.Proofs.YtkfpghggejikiaaW.PrintWords Go.Proofs.YtkfpghggejikiaaW.PrintLast Go.Proofs.YtkfpghggejikiaaW.PrintMore
set_option linter.unusedVariables false
set_option linter.unusedSimpArgs false

theorem lit_reads (W : World) (l : List Int) (e : TypeId) (m : Nat × Nat) (hm : l.length ≤ 9223372036854775807) : Kd.C (Kd.int .u8) (W.alloc (.cells (l.map (Value.int .u8)).toArray e m)) (some ⟨W.heap.size, 0, none⟩) l.length l := by
  refine ⟨rfl, hm, fun _ => ⟨_, rfl, fun j p hj => ⟨[.int .u8 p], rfl, rfl, fun i u hu => ?_⟩⟩⟩
  match i, hu with
  | 0, hu =>
    have e : u = .int .u8 p := by simpa using hu.symm
    subst e
    obtain ⟨q, r⟩ := m
    rw [show (Kd.int .u8).sz = 1 from rfl, Nat.mul_one, Nat.add_zero, add_plain]
    have := World.cell?_alloc_mark W (l.map (Value.int .u8)).toArray e (q, r) j
    rw [this]
    simp [hj]

def tinsellaw15_lives.f (k : Nat) : Option Bool :=
  (text_Count.f k [97, 32, 98, 10, 99]).bind fun c => (text_Fold.f k [97, 98, 99, 100] 3 false).bind fun t => (text_Head.f k [97, 10, 98, 10, 99] (-1)).bind fun h =>
    if c = (1, 3, 5, 3) ∧ t = ([97, 98, 99, 10, 100], 0) ∧ h = [97, 10, 98, 10] then some true else none
theorem tinsellaw15_lives.mono : ∀ k, LeO (tinsellaw15_lives.f k) (tinsellaw15_lives.f (k + 1)) := by
  intro k
  unfold tinsellaw15_lives.f
  exact LeO.bind (text_Count.mono _ _) (fun _ => LeO.bind (text_Fold.mono _ _ _ _) (fun _ => LeO.bind (text_Head.mono _ _ _) (fun _ => LeO.refl _)))

set_option maxHeartbeats 4000000 in
set_option maxRecDepth 100000 in
theorem tinsellaw15_lives.calls (k : Nat) (r : Bool) (w : World) (h : tinsellaw15_lives.f k = some r) :
    Calls Try.prog 13 #[] w fun e w' => e = .returned (.bool r) ∧ Below w.heap.size w w' := by
  unfold tinsellaw15_lives.f at h
  obtain ⟨c, h1, h⟩ := Option.bind_eq_some_iff.mp h
  obtain ⟨t, h2, h⟩ := Option.bind_eq_some_iff.mp h
  obtain ⟨hd, h3, h⟩ := Option.bind_eq_some_iff.mp h
  by_cases hc : c = (1, 3, 5, 3) ∧ t = ([97, 98, 99, 10, 100], 0) ∧ hd = [97, 10, 98, 10]
  · rw [if_pos hc] at h
    obtain rfl := Option.some.inj h
    obtain ⟨rfl, rfl, rfl⟩ := hc
    have H1 := Aside0.mk h1
    have H2 := Aside0.mk h2
    have H3 := Aside0.mk h3
    clear h1 h2 h3 h
    have kc := fun (w : World) (C : Array Value) (n c : Nat) => Lib.run_convert_bytes_const (P := Try.prog) w 22 5 C n c Try.underlying22 Try.underlying5
    go_enter Try.func13, Try.ntmps13
    go_wp2_with fail
    refine (text_Count.calls k _ _ [97, 32, 98, 10, 99] 1 3 5 3 _ (lit_reads w [97, 32, 98, 10, 99] 5 (5, 6) (by decide)) (by decide) H1.out).mono ?_
    rintro e w1 ⟨rfl, hb1⟩
    have HB1 := Aside0.mk (below_then ((Below.refl _ w).alloc (Nat.le_refl _) _) (by simp) hb1)
    clear hb1
    go_wp2_with fail
    refine (text_Fold.calls k _ _ [97, 98, 99, 100] 3 false [97, 98, 99, 10, 100] 0 _ (lit_reads w1 [97, 98, 99, 100] 5 (4, 5) (by decide)) (by decide) H2.out).mono ?_
    rintro e w2 ⟨v2, rfl, ho2, hb2⟩
    obtain ⟨A2, c2, rfl, hl2, hC2⟩ := Kd.R_reads ho2
    have HB2 := Aside0.mk (below_then ((Below.refl _ w1).alloc (Nat.le_refl _) _) (by simp) hb2)
    have hcv : (convert 22 9 (.slice A2 5 c2)).run Try.prog w2 = .ok (.string ⟨#[97, 98, 99, 10, 100]⟩) w2 := Kd.C_string (P := Try.prog) (A := A2) (c := c2) Try.underlying22 Try.underlying5 Try.underlying9 hC2
    clear ho2 hb2 hl2 hC2
    go_wp2_with fail
    refine (text_Head.calls k _ _ [97, 10, 98, 10, 99] (-1) [97, 10, 98, 10] _ (lit_reads w2 [97, 10, 98, 10, 99] 5 (5, 6) (by decide)) (by decide) H3.out).mono ?_
    rintro e w3 ⟨v3, rfl, ho3, hb3⟩
    obtain ⟨A3, c3, rfl, hl3, hC3⟩ := Kd.R_reads ho3
    have HB3 := Aside0.mk (below_then ((Below.refl _ w2).alloc (Nat.le_refl _) _) (by simp) hb3)
    have hcv3 : (convert 22 9 (.slice A3 4 c3)).run Try.prog w3 = .ok (.string ⟨#[97, 10, 98, 10]⟩) w3 := Kd.C_string (P := Try.prog) (A := A3) (c := c3) Try.underlying22 Try.underlying5 Try.underlying9 hC3
    clear ho3 hb3 hl3 hC3
    go_wp2
    go_ret
    exact ⟨rfl, below_then HB1.out HB1.out.size (below_then HB2.out HB2.out.size HB3.out)⟩
  · rw [if_neg hc] at h
    exact absurd h (by simp)
end Go.Proofs.Ytkfpghggejikiaa.P
