/- strings.IndexByte, strings.Join, strings.Trim and strings.TrimRight (a cutset of one byte) in the printed form: each by its contract on the shelf. -/
import Derived.Test.YtajafgcndalieaaDoorWMore
import Derived.Test.YtajafgcndalieaaDoorWN
import Derived.Test.YtajafgcndalieaaDoorShelf
namespace Go.Proofs.YtajafgcndalieaaDoor.P
open Go.RowKit Go.Proofs.YtajafgcndalieaaDoorW.PrintWords Go.Proofs.YtajafgcndalieaaDoorW.PrintLast Go.Proofs.YtajafgcndalieaaDoorW.PrintMore
set_option linter.unusedVariables false
set_option linter.unusedSimpArgs false

def strings_IndexByte.f (a0 : ByteArray) (a1 : Int) : Option Int := some (Lib.indexByte a0.data.toList a1.toNat.toUInt8)
theorem strings_IndexByte.calls (a0 : ByteArray) (a1 : Int) (r : Int) (w : World) (h : strings_IndexByte.f a0 a1 = some r) :
    Calls Tryd.prog 27 #[.string a0, .int .u8 a1] w fun e w' => e = .returned (.int .i64 r) ∧ Drawn0 w w' := by
  obtain rfl := Option.some.inj h
  refine (Tryd.strings_IndexByte a0 a1 w).mono ?_
  rintro e w' ⟨rfl, rfl⟩
  exact ⟨rfl, Drawn0.refl _⟩

/-- the one byte of a text of one byte -/
def oneB (a : ByteArray) : Option UInt8 := match a.data.toList with
  | [c] => if c.toNat < 128 then some c else none
  | _ => none
theorem oneB_eq {a : ByteArray} {c : UInt8} (h : oneB a = some c) : a = ⟨#[c]⟩ ∧ c.toNat < 128 := by
  obtain ⟨⟨l⟩⟩ := a
  unfold oneB at h
  match l, h with
  | [d], h =>
    simp only at h
    have h : (if d.toNat < 128 then some d else none) = some c := h
    by_cases hd : d.toNat < 128
    · rw [if_pos hd] at h
      obtain rfl := Option.some.inj h
      exact ⟨rfl, hd⟩
    · rw [if_neg hd] at h
      cases h
def strings_TrimRight.f (a0 a1 : ByteArray) : Option ByteArray := (oneB a1).bind fun c => if a0.size ≤ 9223372036854775807 then some ⟨(Lib.trimRightB a0.data.toList c).toArray⟩ else none
theorem strings_TrimRight.calls (a0 a1 : ByteArray) (r : ByteArray) (w : World) (h : strings_TrimRight.f a0 a1 = some r) :
    Calls Tryd.prog 36 #[.string a0, .string a1] w fun e w' => e = .returned (.string r) ∧ Drawn0 w w' := by
  obtain ⟨c, hc, h2⟩ := Option.bind_eq_some_iff.mp h
  clear h
  have h := h2
  clear h2
  obtain ⟨rfl, h128⟩ := oneB_eq hc
  clear hc
  by_cases hs : a0.size ≤ 9223372036854775807
  · rw [if_pos hs] at h
    obtain rfl := Option.some.inj h
    refine (Tryd.strings_TrimRight_one a0 c h128 w hs).mono ?_
    rintro e w' ⟨rfl, rfl⟩
    exact ⟨rfl, Drawn0.refl _⟩
  · rw [if_neg hs] at h
    cases h
def strings_Trim.f (a0 a1 : ByteArray) : Option ByteArray := (oneB a1).bind fun c => if a0.size ≤ 9223372036854775807 then some ⟨(Lib.trimB a0.data.toList c).toArray⟩ else none
theorem strings_Trim.calls (a0 a1 : ByteArray) (r : ByteArray) (w : World) (h : strings_Trim.f a0 a1 = some r) :
    Calls Tryd.prog 47 #[.string a0, .string a1] w fun e w' => e = .returned (.string r) ∧ Drawn0 w w' := by
  obtain ⟨c, hc, h2⟩ := Option.bind_eq_some_iff.mp h
  clear h
  have h := h2
  clear h2
  obtain ⟨rfl, h128⟩ := oneB_eq hc
  clear hc
  by_cases hs : a0.size ≤ 9223372036854775807
  · rw [if_pos hs] at h
    obtain rfl := Option.some.inj h
    refine (Tryd.strings_Trim_one a0 c h128 w hs).mono ?_
    rintro e w' ⟨rfl, hw⟩
    rcases hw with rfl | rfl
    · exact ⟨rfl, Drawn0.refl _⟩
    · exact ⟨rfl, ⟨⟨1, rfl⟩⟩⟩
  · rw [if_neg hs] at h
    cases h

def strings_Join.f (l0 : List ByteArray) (a1 : ByteArray) : Option ByteArray := if l0.length ≤ 140737488355328 ∧ (Lib.join (l0.map (·.data.toList)) a1.data.toList).length ≤ 140737488355328 then some ⟨(Lib.join (l0.map (·.data.toList)) a1.data.toList).toArray⟩ else none
theorem strings_Join.calls (A0 : Option Addr) (c0 : Nat) (l0 : List ByteArray) (a1 : ByteArray) (r : ByteArray) (w : World) (hr0 : Kd.C Kd.string w A0 l0.length l0) (hc0 : l0.length ≤ c0) (h : strings_Join.f l0 a1 = some r) :
    Calls Tryd.prog 30 #[.slice A0 l0.length c0, .string a1] w fun e w' => e = .returned (.string r) ∧ Below w.heap.size w w' := by
  unfold strings_Join.f at h
  split at h
  · rename_i hb
    obtain rfl := Option.some.inj h
    cases l0 with
    | nil =>
      refine (Tryd.strings_Join_none A0 c0 a1 w).mono ?_
      rintro e w' ⟨rfl, rfl⟩
      exact ⟨rfl, Below.refl _ _⟩
    | cons x xs =>
      have hg : ∀ i : Nat, i < (x :: xs).length → ∃ ad, A0 = some ad ∧ w.cell? (ad.add i) = some (.string ((x :: xs).getD i default)) := by
        intro i hi
        obtain ⟨ad, c, e, hl, hK, hc⟩ := Kd.C_get hr0 default (i : Int) (by omega) (by omega)
        have hK' : c = [.string ((x :: xs).getD i default)] := hK
        subst hK'
        refine ⟨ad, e, ?_⟩
        have := hc 0 _ rfl
        simpa [Kd.string, Kd.scalar] using this
      obtain ⟨ad, rfl, h0⟩ := hg 0 (by simp)
      obtain ⟨b, o, rfl⟩ : ∃ b o, ad = ⟨b, o, none⟩ := by
        obtain ⟨b, o, sp⟩ := ad
        cases sp with
        | none => exact ⟨b, o, rfl⟩
        | some s =>
          exfalso
          simp [Addr.add, World.cell?] at h0
          split at h0 <;> cases h0
      refine (Tryd.strings_Join b o c0 (x :: xs) a1 w ?_ ?_ hb.1 hc0 hb.2).mono (fun e w' h => h)
      · intro j y hj
        obtain ⟨hl, hy⟩ := List.getElem?_eq_some_iff.1 hj
        obtain ⟨ad, e, hc⟩ := hg j hl
        obtain rfl := Option.some.inj e
        rw [List.getD_eq_getElem?_getD, hj] at hc
        have e : (⟨b, o, none⟩ : Addr).add j = ⟨b, o + j, none⟩ := by
          by_cases hz : j = 0
          · subst hz; simp [Addr.add]
          · simp [Addr.add, hz]
        rw [e] at hc
        simpa using hc
      · exact World.block_lt_of_cell? w _ h0
  · cases h
end Go.Proofs.YtajafgcndalieaaDoor.P
