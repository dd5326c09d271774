/- args, plain: each token put out for a text. -/
import Derived.Test.YthnfaipbkocljaaDoorHStr
namespace Go.Proofs.YthnfaipbkocljaaDoor.Pure
set_option linter.unusedSimpArgs false
set_option linter.unusedVariables false
open Go.RowKit Go.Proofs.YthnfaipbkocljaaDoor.P Go.Proofs.YthnfaipbkocljaaDoorW.PrintWords Go.Proofs.YthnfaipbkocljaaDoorW.PrintLast Go.Proofs.YthnfaipbkocljaaDoorW.PrintMore

theorem w64 (n : Int) (h : -9223372036854775808 ≤ n) (h' : n ≤ 9223372036854775807) : wrap64 n = n := by unfold wrap64; omega
theorem w64s (i : Nat) (h : (i : Int) ≤ 9223372036854775806) : wrap64 ((i : Int) + 1) = ((i + 1 : Nat) : Int) := by unfold wrap64; omega
theorem nil_size (s : ByteArray) : s.toList = [] ↔ s.size = 0 := by
  rw [Go.ByteArray.toList_eq, ← data_length, List.length_eq_zero_iff]
theorem same_eq {a b : ByteArray} (h : a.toList = b.toList) : a = b := by
  rw [Go.ByteArray.toList_eq, Go.ByteArray.toList_eq] at h
  exact ByteArray.ext (Array.ext' h)
theorem at_bt (s : ByteArray) (i : Nat) (b : UInt8) (h : s.data.toList[i]? = some b) : bt s (i : Int) = (b.toNat : Int) := by
  obtain ⟨hl, hb⟩ := List.getElem?_eq_some_iff.mp h
  rw [data_length] at hl
  rw [← bt_at s (i : Int) (by simpa using hl), ← hb]
  rfl

/-- each old, from the left, put out for new -/
def rep (old new s : List UInt8) : List UInt8 := Lib.replaceK old new (Lib.count s old) s
theorem rep_nil (old new : List UInt8) (h : old ≠ []) : rep old new [] = [] := by
  have hi : Lib.index [] old = -1 := by
    cases old with
    | nil => exact absurd rfl h
    | cons a t => rfl
  rw [rep, Lib.count_miss hi, Lib.replaceK]
theorem rep_hit (old new s : List UInt8) (h : old ≠ []) (hp : old.isPrefixOf s = true) : rep old new s = new ++ rep old new (s.drop old.length) := by
  have hi : Lib.index s old = (0 : Nat) := by
    cases s with
    | nil =>
      cases old with
      | nil => exact absurd rfl h
      | cons a t => simp at hp
    | cons b l => rw [Lib.index, if_pos hp]; rfl
  rw [rep, Lib.count_hit h hi, Nat.add_comm 1, Lib.replaceK_hit _ _ _ _ _ hi]
  simp [rep]
theorem rep_miss (old new : List UInt8) (b : UInt8) (t : List UInt8) (h : old ≠ []) (hp : old.isPrefixOf (b :: t) = false) : rep old new (b :: t) = b :: rep old new t := by
  rcases Lib.index_spec t old with ⟨h1, _⟩ | ⟨i, h1, h2, h3, h4⟩
  · have hi : Lib.index (b :: t) old = -1 := by rw [Lib.index, hp, h1]; rfl
    rw [rep, rep, Lib.count_miss hi, Lib.count_miss h1, Lib.replaceK, Lib.replaceK]
  · have hi : Lib.index (b :: t) old = ((i + 1 : Nat) : Int) := by
      rw [Lib.index, hp, h1]
      have : ((i : Int) == -1) = false := by rw [beq_eq_false_iff_ne]; omega
      simp [this]
    have e : i + 1 + old.length = (i + old.length) + 1 := by omega
    rw [rep, rep, Lib.count_hit h hi, Lib.count_hit h h1, Nat.add_comm 1, Nat.add_comm 1, Lib.replaceK_hit _ _ _ _ _ hi, Lib.replaceK_hit _ _ _ _ _ h1, e]
    simp
theorem rep_self (old : List UInt8) (h : old ≠ []) : ∀ n (s : List UInt8), s.length ≤ n → rep old old s = s
  | 0, s, hn => by
    obtain rfl : s = [] := List.eq_nil_of_length_eq_zero (by omega)
    exact rep_nil _ _ h
  | n + 1, s, hn => by
    cases s with
    | nil => exact rep_nil _ _ h
    | cons b t =>
      cases hp : old.isPrefixOf (b :: t) with
      | false => rw [rep_miss _ _ _ _ h hp, rep_self old h n t (by simpa using hn)]
      | true =>
        have hl : 0 < old.length := List.length_pos_iff.mpr h
        rw [rep_hit _ _ _ h hp, rep_self old h n _ (by simp at hn ⊢; omega)]
        exact List.prefix_iff_eq_append.mp (List.isPrefixOf_iff_prefix.mp hp)
theorem replaceAll_rep (old new s : List UInt8) (h : old ≠ []) : Lib.replaceAll s old new = rep old new s := by
  unfold Lib.replaceAll Lib.replace
  by_cases e : old = new
  · subst e
    rw [if_pos (by simp), rep_self _ h _ _ (Nat.le_refl _)]
  · rw [if_neg (by simpa using e), rep]
    congr 1
end Go.Proofs.YthnfaipbkocljaaDoor.Pure
