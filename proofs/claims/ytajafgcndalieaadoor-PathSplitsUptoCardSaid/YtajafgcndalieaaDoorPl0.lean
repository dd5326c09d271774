/- The path laws, plain part 0: numbers and bytes. -/
import Derived.Test.YtajafgcndalieaaDoorHSplit
namespace Go.Proofs.YtajafgcndalieaaDoor.Pure
set_option linter.unusedSimpArgs false
set_option linter.unusedVariables false
open Go.RowKit Go.Proofs.YtajafgcndalieaaDoor.P Go.Proofs.YtajafgcndalieaaDoorW.PrintWords Go.Proofs.YtajafgcndalieaaDoorW.PrintLast Go.Proofs.YtajafgcndalieaaDoorW.PrintMore

theorem w64 (n : Int) (h : -9223372036854775808 ≤ n) (h' : n ≤ 9223372036854775807) : wrap64 n = n := by unfold wrap64; omega
theorem w64s (i : Nat) (h : (i : Int) ≤ 9223372036854775806) : wrap64 ((i : Int) + 1) = ((i + 1 : Nat) : Int) := by unfold wrap64; omega
theorem w64p (i : Nat) (h : (i : Int) ≤ 9223372036854775806) : wrap64 (((i + 1 : Nat) : Int) - 1) = (i : Int) := by unfold wrap64; omega

theorem at_bt (s : ByteArray) (i : Nat) (b : UInt8) (h : s.data.toList[i]? = some b) : bt s (i : Int) = (b.toNat : Int) := by
  obtain ⟨hl, hb⟩ := List.getElem?_eq_some_iff.mp h
  rw [bt_ix s i (by rw [← len_data]; exact hl), ← hb]
  rfl
theorem b47 (b : UInt8) : (b.toNat : Int) = 47 ↔ b = 47 := by
  constructor
  · intro h
    exact UInt8.toNat_inj.mp (by have h47 : (47 : UInt8).toNat = 47 := rfl; omega)
  · rintro rfl
    rfl
theorem nil_size (s : ByteArray) : s.toList = [] ↔ s.size = 0 := by
  rw [Go.ByteArray.toList_eq, ← len_data, List.length_eq_zero_iff]
theorem same_eq {a b : ByteArray} (h : a.toList = b.toList) : a = b := by
  rw [Go.ByteArray.toList_eq, Go.ByteArray.toList_eq] at h
  exact ByteArray.ext (Array.ext' h)
end Go.Proofs.YtajafgcndalieaaDoor.Pure
