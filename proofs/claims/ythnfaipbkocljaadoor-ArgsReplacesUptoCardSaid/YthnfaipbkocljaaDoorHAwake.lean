/- tinsellaw22.awake: the document's examples: where Split, Texts and Length answer so, awake returns true. -/
import Derived.Test.YthnfaipbkocljaaDoorPx1
import Derived.Test.YthnfaipbkocljaaDoorPx7
import Derived.Test.YthnfaipbkocljaaDoorPx7
import Derived.Test.YthnfaipbkocljaaDoorHSplitW
import Derived.Lib.SlBytesConst
namespace Go.Proofs.YthnfaipbkocljaaDoor.P
open Go.RowKit Go.Proofs.YthnfaipbkocljaaDoorW.PrintWords Go.Proofs.YthnfaipbkocljaaDoorW.PrintLast Go.Proofs.YthnfaipbkocljaaDoorW.PrintMore
set_option linter.unusedVariables false
set_option linter.unusedSimpArgs false
theorem lit_reads (W : World) (l : List Int) (e : TypeId) (m : Nat × Nat) (hm : l.length ≤ 9223372036854775807) : Kd.C (Kd.int .u8) (W.alloc (.cells (l.map (Value.int .u8)).toArray e m)) (some ⟨W.heap.size, 0, none⟩) l.length l := by
  refine ⟨rfl, hm, fun _ => ⟨_, rfl, fun j p hj => ⟨[.int .u8 p], rfl, rfl, fun i u hu => ?_⟩⟩⟩
  match i, hu with
  | 0, hu =>
    have e : u = .int .u8 p := by simpa using hu.symm
    subst e
    obtain ⟨q, r⟩ := m
    rw [show (Kd.int .u8).sz = 1 from rfl, Nat.mul_one, Nat.add_zero, add_plain]
    have := World.cell?_alloc_mark W (l.map (Value.int .u8)).toArray e (q, r) j
    rw [this]
    simp [hj]
theorem lit_readsS (W : World) (l : List ByteArray) (e : TypeId) (hm : l.length ≤ 9223372036854775807) : Kd.C Kd.string (W.alloc (.cells (l.map Value.string).toArray e)) (some ⟨W.heap.size, 0, none⟩) l.length l := by
  refine ⟨rfl, hm, fun _ => ⟨_, rfl, fun j p hj => ⟨[.string p], rfl, rfl, fun i u hu => ?_⟩⟩⟩
  match i, hu with
  | 0, hu =>
    have e : u = .string p := by simpa using hu.symm
    subst e
    rw [show Kd.string.sz = 1 from rfl, Nat.mul_one, Nat.add_zero, add_plain]
    have := World.cell?_alloc_mark W (l.map Value.string).toArray e (0, 0) j
    rw [this]
    simp [hj]

def tinsellaw22_awake.f (k : Nat) : Option Bool :=
  (args_Split.f [97, 32, 39, 98, 32, 99, 39, 32, 100, 92, 32, 101, 10] false).bind fun c => (tinselref01_Texts.f k c.1 [⟨#[97]⟩, ⟨#[98, 32, 99]⟩, ⟨#[100, 32, 101]⟩]).bind fun t => (args_Length.f k [⟨#[97, 98]⟩, ⟨#[99]⟩]).bind fun n =>
    if c.2 = 0 ∧ t = true ∧ n = 5 then some true else none
theorem tinsellaw22_awake.mono : ∀ k, LeO (tinsellaw22_awake.f k) (tinsellaw22_awake.f (k + 1)) := by
  intro k
  unfold tinsellaw22_awake.f
  exact LeO.bind (LeO.refl _) (fun _ => LeO.bind (tinselref01_Texts.mono _ _ _) (fun _ => LeO.bind (args_Length.mono _ _) (fun _ => LeO.refl _)))
theorem tinsellaw22_awake.up {k : Nat} {r : Bool} (h : tinsellaw22_awake.f k = some r) : ∀ m, k ≤ m → tinsellaw22_awake.f m = some r := by
  intro m hm
  obtain ⟨d, rfl⟩ := Nat.le.dest hm
  induction d with
  | zero => exact h
  | succ d ih => exact tinsellaw22_awake.mono (k + d) r (ih (by omega))
theorem tinsellaw22_awake.true_ : ∀ m, 60 ≤ m → tinsellaw22_awake.f m = some true := tinsellaw22_awake.up (k := 60) (by decide +kernel)

set_option maxHeartbeats 4000000 in
set_option maxRecDepth 100000 in
theorem tinsellaw22_awake.calls (k : Nat) (r : Bool) (w : World) (h : tinsellaw22_awake.f k = some r) :
    Calls Tryd.prog 15 #[] w fun e w' => e = .returned (.bool r) ∧ Below w.heap.size w w' := by
  unfold tinsellaw22_awake.f at h
  obtain ⟨⟨c, ce⟩, h1, h⟩ := Option.bind_eq_some_iff.mp h
  obtain ⟨t, h2, h⟩ := Option.bind_eq_some_iff.mp h
  obtain ⟨n, h3, h⟩ := Option.bind_eq_some_iff.mp h
  by_cases hc : ce = 0 ∧ t = true ∧ n = 5
  · rw [if_pos hc] at h
    obtain rfl := Option.some.inj h
    obtain ⟨rfl, rfl, rfl⟩ := hc
    have H1 := Aside0.mk h1
    have H2 := Aside0.mk h2
    have H3 := Aside0.mk h3
    clear h1 h2 h3 h
    have kc := fun (w : World) (C : Array Value) (n c : Nat) => Lib.run_convert_bytes_const (P := Tryd.prog) w 68 5 C n c Tryd.underlying68 Tryd.underlying5
    go_enter Tryd.func15, Tryd.ntmps15
    go_wp2_with fail
    refine (args_Split.calls _ _ [97, 32, 39, 98, 32, 99, 39, 32, 100, 92, 32, 101, 10] false c 0 _ (lit_reads w [97, 32, 39, 98, 32, 99, 39, 32, 100, 92, 32, 101, 10] 5 (13, 14) (by decide)) (by decide) H1.out).mono ?_
    rintro e w1 ⟨v1, rfl, ho1, hb1⟩
    obtain ⟨A1, c1, rfl, hl1, hC1⟩ := Kd.R_reads ho1
    have HC1 := Aside0.mk hC1
    have HB1 := Aside0.mk (below_then ((Below.refl _ w).alloc (Nat.le_refl _) _) (by simp) hb1)
    clear hb1 ho1 hC1
    go_wp2_with fail
    refine (tinsellaw22_num.calls 0 0 _ rfl).mono ?_
    rintro e w' ⟨rfl, ⟨nd, rfl⟩⟩
    go_wp2_with fail
    refine (tinselref01_Texts.calls k _ _ c _ _ [⟨#[97]⟩, ⟨#[98, 32, 99]⟩, ⟨#[100, 32, 101]⟩] true _ (Kd.C_alloc (Kd.C_drewN HC1.out nd) _) hl1 (lit_readsS (w1.drewN nd) [⟨#[97]⟩, ⟨#[98, 32, 99]⟩, ⟨#[100, 32, 101]⟩] 9 (by decide)) (by decide) H2.out).mono ?_
    rintro e w' ⟨rfl, ⟨nd2, rfl⟩⟩
    go_wp2_with fail
    have hsz : (((w1.drewN nd).alloc (.cells #[Value.string ⟨#[97]⟩, Value.string ⟨#[98, 32, 99]⟩, Value.string ⟨#[100, 32, 101]⟩] 9)).drewN nd2).heap.size = w1.heap.size + 1 := by simp
    have hL := lit_readsS (((w1.drewN nd).alloc (.cells #[Value.string ⟨#[97]⟩, Value.string ⟨#[98, 32, 99]⟩, Value.string ⟨#[100, 32, 101]⟩] 9)).drewN nd2) [⟨#[97, 98]⟩, ⟨#[99]⟩] 9 (by decide)
    rw [hsz] at hL
    refine (args_Length.calls k _ _ [⟨#[97, 98]⟩, ⟨#[99]⟩] 5 _ hL (by decide) H3.out).mono ?_
    rintro e w' ⟨rfl, ⟨nd3, rfl⟩⟩
    clear hL hsz
    go_wp2
    go_ret
    refine ⟨rfl, ?_⟩
    repeat (first | (with_reducible first | exact HB1.out | apply below_alloc | apply pw_below_drewN | apply below_drew1) | exact HB1.out)
  · rw [if_neg hc] at h
    exact absurd h (by simp)
end Go.Proofs.YthnfaipbkocljaaDoor.P
