/-
  bytes.IndexByte and bytes.Count (a separator of one byte) answer as the model's entries do, at any slice that is read; the world is as it was.
-/
import Derived.Test.YtkfpghggejikiaaPx0
import Derived.Shelf.Bytes.SlIndexAt
import Derived.Shelf.Bytes.SlCountOne
import Derived.Laws.Externs
namespace Go.Proofs.Ytkfpghggejikiaa.P
open Go.RowKit Go.Proofs.YtkfpghggejikiaaW.PrintWords Go.Proofs.YtkfpghggejikiaaW.PrintLast Go.Proofs.YtkfpghggejikiaaW.PrintMore
set_option linter.unusedVariables false
set_option linter.unusedSimpArgs false

theorem u8_cells {w : World} {ad : Addr} {n : Nat} {xs : List Int} (h : Kd.C (Kd.int .u8) w (some ad) n xs) : ∀ i, i < n → w.cell? (ad.add i) = some (.int .u8 (xs.getD i 0)) := by
  intro i hi
  obtain ⟨ad', e, hc⟩ := Kd.at_int h (i : Int) (by omega) (by omega)
  cases e
  simpa [rd] using hc

def bytes_IndexByte.f (l0 : List Int) (a1 : Int) : Option Int := some (Lib.indexByte (Lib.bytesOf l0) a1.toNat.toUInt8)

set_option maxHeartbeats 2000000 in
set_option maxRecDepth 1000000 in
theorem bytes_IndexByte.calls (A0 : Option Addr) (c0 : Nat) (l0 : List Int) (a1 : Int) (r : Int) (w : World) (hr0 : Kd.C (Kd.int .u8) w A0 l0.length l0) (hc0 : l0.length ≤ c0) (h : bytes_IndexByte.f l0 a1 = some r) :
    Calls Try.prog 38 #[.slice A0 l0.length c0, .int .u8 a1] w fun e w' => e = .returned (.int .i64 r) ∧ Drawn0 w w' := by
  obtain rfl := Option.some.inj h
  clear h
  cases A0 with
  | none =>
    have hz : l0 = [] := by
      rcases Nat.eq_zero_or_pos l0.length with h0 | h0
      · exact List.eq_nil_of_length_eq_zero h0
      · obtain ⟨ad, e, _⟩ := Kd.at_int hr0 0 (by omega) (by omega)
        cases e
    subst hz
    have e1 : Lib.indexByte (Lib.bytesOf []) a1.toNat.toUInt8 = -1 := by simp [Lib.bytesOf, Lib.indexByte]
    rw [e1]
    clear hr0 hc0
    go_enter Try.func38, Try.ntmps38
    go_wp2
    rw [run_callFunc_extern Try.func51 (by kernel_rfl) (by kernel_rfl) (by kernel_rfl) (e := Extern.BytealgIndexByte.indexByte) (by kernel_rfl), Lib.run_indexByteNil w _ _ a1]
    simp only [Result.andThen]
    rw [Oper.upon_value]
    go_wp2
    go_ret
    exact ⟨rfl, Drawn0.refl _⟩
  | some ad =>
    have hc := u8_cells hr0
    have HC := Aside0.mk hc
    clear hc hr0 hc0
    go_enter Try.func38, Try.ntmps38
    go_wp2
    rw [run_callFunc_extern Try.func51 (by kernel_rfl) (by kernel_rfl) (by kernel_rfl) (e := Extern.BytealgIndexByte.indexByte) (by kernel_rfl), Lib.run_indexByteAt w ad _ _ l0 rfl HC.out a1]
    simp only [Result.andThen]
    rw [Oper.upon_value]
    go_wp2
    go_ret
    exact ⟨rfl, Drawn0.refl _⟩

def bytes_Count.f (l0 l1 : List Int) : Option Int := match l1 with
  | [c] => some (Lib.countByte (Lib.bytesOf l0) c.toNat.toUInt8)
  | _ => none

set_option maxHeartbeats 2000000 in
set_option maxRecDepth 1000000 in
theorem bytes_Count.calls (A0 : Option Addr) (c0 : Nat) (l0 : List Int) (A1 : Option Addr) (c1 : Nat) (l1 : List Int) (r : Int) (w : World) (hr0 : Kd.C (Kd.int .u8) w A0 l0.length l0) (hc0 : l0.length ≤ c0) (hr1 : Kd.C (Kd.int .u8) w A1 l1.length l1) (hc1 : l1.length ≤ c1) (h : bytes_Count.f l0 l1 = some r) :
    Calls Try.prog 41 #[.slice A0 l0.length c0, .slice A1 l1.length c1] w fun e w' => e = .returned (.int .i64 r) ∧ Drawn0 w w' := by
  match l1, hr1, hc1, h with
  | [], _, _, h => exact absurd h (by simp [bytes_Count.f])
  | _ :: _ :: _, _, _, h => exact absurd h (by simp [bytes_Count.f])
  | [sc], hr1, hc1, h =>
    obtain rfl := Option.some.inj h
    clear h
    obtain ⟨ad1, e1, hc1'⟩ := Kd.at_int hr1 0 (by omega) (by simp)
    cases e1
    have hd1 : w.cell? (ad1.add 0) = some (.int .u8 sc) := by simpa [rd] using hc1'
    have hd0 : w.cell? ad1 = some (.int .u8 sc) := by simpa [Addr.add] using hd1
    clear hc1' hr1
    cases A0 with
    | none =>
      have hz : l0 = [] := by
        rcases Nat.eq_zero_or_pos l0.length with h0 | h0
        · exact List.eq_nil_of_length_eq_zero h0
        · obtain ⟨ad, e, _⟩ := Kd.at_int hr0 0 (by omega) (by omega)
          cases e
      subst hz
      have e1 : (Lib.countByte (Lib.bytesOf []) sc.toNat.toUInt8 : Int) = 0 := by simp [Lib.bytesOf, Lib.countByte]
      rw [e1]
      clear hr0 hc0
      go_enter Try.func41, Try.ntmps41
      go_wp2
      rw [run_callFunc_extern Try.func54 (by kernel_rfl) (by kernel_rfl) (by kernel_rfl) (e := Extern.BytealgCount.count) (by kernel_rfl), Lib.run_countNil w _ _ sc]
      simp only [Result.andThen]
      rw [Oper.upon_value]
      go_wp2
      go_ret
      exact ⟨rfl, Drawn0.refl _⟩
    | some ad =>
      have hc := u8_cells hr0
      have HC := Aside0.mk hc
      clear hc hr0 hc0
      go_enter Try.func41, Try.ntmps41
      go_wp2
      rw [run_callFunc_extern Try.func54 (by kernel_rfl) (by kernel_rfl) (by kernel_rfl) (e := Extern.BytealgCount.count) (by kernel_rfl), Lib.run_countAt w ad _ _ l0 rfl HC.out sc]
      simp only [Result.andThen]
      rw [Oper.upon_value]
      go_wp2
      go_ret
      exact ⟨rfl, Drawn0.refl _⟩
end Go.Proofs.Ytkfpghggejikiaa.P
