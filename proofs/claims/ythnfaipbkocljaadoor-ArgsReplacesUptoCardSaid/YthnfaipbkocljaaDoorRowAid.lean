/- What the rows of this seat read of their arguments: texts and lists of texts, their sizes and their bulk. -/
import Derived.Test.YthnfaipbkocljaaDoorRows
import Derived.Test.YthnfaipbkocljaaDoorWMore
import Derived.WalkKit
import Derived.ProofKit
import Derived.OpenShut
import Derived.SizedLaws
import Derived.SliceStrings
namespace Go.Proofs.YthnfaipbkocljaaDoor.RowAid
open Go.ChangeShapes Go.WideShapes Go.ChangeAt Go.RowKit
open Go.Proofs.YthnfaipbkocljaaDoorW.PrintWords
set_option linter.unusedVariables false
theorem bulk_pos {H : Type} (d : DataW H) : 0 < Rows.uptoBulk d := by
  cases d
  case lit l => cases l <;> simp [Rows.uptoBulk]
  all_goals simp [Rows.uptoBulk]
theorem bulk_all {H : Type} (l : List (DataW H)) : l.length ≤ Rows.uptoBulkAll l ∧ ∀ d, d ∈ l → Rows.uptoBulk d ≤ Rows.uptoBulkAll l := by
  induction l with
  | nil => exact ⟨Nat.zero_le _, fun d h => by cases h⟩
  | cons a r ih =>
    have ha := bulk_pos a
    refine ⟨by simp only [Rows.uptoBulkAll, List.length_cons]; omega, fun d h => ?_⟩
    simp only [Rows.uptoBulkAll]
    rcases List.mem_cons.mp h with rfl | h
    · omega
    · have := ih.2 d h; omega
theorem bulk_in {H : Type} {ds : List (DataW H)} {d : DataW H} (hk : Rows.uptoSmall H ds = true) (hd : d ∈ ds) : Rows.uptoBulk d ≤ 1048576 := by
  have h1 := (bulk_all ds).2 d hd
  have h2 : Rows.uptoBulkAll ds ≤ 1048576 := of_decide_eq_true hk
  omega
theorem bulk_string {H : Type} {ds : List (DataW H)} {a : ByteArray} (hk : Rows.uptoSmall H ds = true) (hd : DataW.lit (.string a.data.toList) ∈ ds) : a.size ≤ 1048576 := by
  have h := bulk_in hk hd
  simp only [Rows.uptoBulk, Array.length_toList] at h
  have e : a.data.size = a.size := rfl
  omega
/-- A list of texts that came in: it reads so, and its datum is of that form. -/
theorem opened_strs {H : Type} {enc : TypeId × Value → H} {P : Program} {W : World} {base : Nat} {spare : Nat → Bool} {held : Bool} {t e : TypeId} {a : Option Addr} {len cap : Nat} {d : DataW H} {ps : List MemPlace}
    (ht : P.underlying t = some (.slice e)) (he : P.underlying e = some .string) (hc : P.cellsOf e = 1) (h : DataW.Trod enc P W base spare held t (.slice a len cap) d ps) :
    ∃ l : List ByteArray, l.length = len ∧ len ≤ cap ∧ Kd.C Kd.string W a len l ∧ ((d = .nil ∧ l = []) ∨ ∃ rest, d = .slice (strs l) rest) := by
  obtain ⟨fuel, hf⟩ := h
  rcases open_strings ht he hc hf with ⟨hcs, hx⟩ | ⟨x, l, c, ss, hcs, _, hl, hm, hlen, hx, hcell, hwz⟩
  · simp [Value.cells] at hcs
    obtain ⟨rfl, rfl, rfl⟩ := hcs
    exact ⟨[], rfl, Nat.le_refl _, Kd.C_nil _ _, .inl ⟨(Prod.mk.inj hx).1, rfl⟩⟩
  · simp [Value.cells] at hcs
    obtain ⟨rfl, rfl, rfl⟩ := hcs
    have hls : len ≤ ss.length := by
      rw [hlen]
      split
      · exact hl
      · exact Nat.le_refl _
    have hlt : (ss.take len).length = len := by rw [List.length_take]; omega
    refine ⟨ss.take len, hlt, hl, ?_, .inr ⟨_, (Prod.mk.inj hx).1⟩⟩
    unfold maxLen at hm
    refine Kd.C_of_reads (d := ByteArray.empty) (h1 := fun _ => rfl) ⟨hlt, by omega, fun _ => ⟨x, rfl, fun j hj => ?_⟩⟩
    rw [hcell j (by omega)]
    congr 2
    simp [List.getD_eq_getElem?_getD, hj]
theorem weights_strs {H : Type} {P : Program} {e : TypeId} (l : List ByteArray) : DataW.weightsAll (H := H) P e (strs l) = l.map (·.data.toList.length) := by
  induction l with
  | nil => rfl
  | cons x l ih =>
    show (DataW.lit (.string x.data.toList)).weights P e ++ DataW.weightsAll P e (strs l) = _
    rw [ih]
    rfl
/-- The reach of a list of texts. -/
theorem sized_strs {H : Type} {P : Program} {ts : List TypeId} {ds : List (DataW H)} {j : Nat} {t e : TypeId} {d : DataW H} {l : List ByteArray} (hsz : (DataW.weightsEach P ts ds).all (· ≤ reachBytes) = true) (ht : ts[j]? = some t) (hd : ds[j]? = some d)
    (hu : P.underlying t = some (.slice e)) (hb : P.bytesOf e = 16) (h : (d = .nil ∧ l = []) ∨ ∃ rest, d = .slice (strs l) rest) : (∀ x ∈ l, x.size ≤ 140737488351232) ∧ l.length * 16 ≤ 140737488351232 := by
  rcases h with ⟨_, rfl⟩ | ⟨rest, rfl⟩
  · simp
  · have hall : ∀ (ts : List TypeId) (ds : List (DataW H)) (j : Nat), ts[j]? = some t → ds[j]? = some (.slice (strs l) rest) → ∀ n, n ∈ (DataW.slice (strs l) rest).weights P t → n ∈ DataW.weightsEach P ts ds := by
      intro ts
      induction ts with
      | nil => intro ds j h; simp at h
      | cons t0 ts ih =>
        intro ds j h1 h2 n hn
        cases ds with
        | nil => simp at h2
        | cons d0 ds =>
          rw [show DataW.weightsEach P (t0 :: ts) (d0 :: ds) = d0.weights P t0 ++ DataW.weightsEach P ts ds from rfl]
          cases j with
          | zero =>
            simp only [List.getElem?_cons_zero, Option.some.injEq] at h1 h2
            subst h1
            subst h2
            exact List.mem_append_left _ hn
          | succ j => exact List.mem_append_right _ (ih ds j h1 h2 n hn)
    have hle : ∀ n, n ∈ (DataW.slice (strs l) rest).weights P t → n ≤ reachBytes := fun n hn => by
      have := List.all_eq_true.mp hsz n (hall ts ds j ht hd n hn)
      simpa using this
    have hw : (DataW.slice (strs l) rest).weights P t = ((strs (H := H) l).length + rest.length) * P.bytesOf e :: (DataW.weightsAll P e (strs (H := H) l) ++ DataW.weightsAll P e rest) := by
      simp only [DataW.weights, hu]
    rw [hw] at hle
    have hr : reachBytes = 140737488351232 := rfl
    constructor
    · intro x hx
      have := hle x.data.toList.length (by
        refine List.mem_cons_of_mem _ (List.mem_append_left _ ?_)
        rw [weights_strs]
        exact List.mem_map.mpr ⟨x, hx, rfl⟩)
      rw [Array.length_toList, hr] at this
      exact this
    · have := hle _ List.mem_cons_self
      rw [hb, hr] at this
      have e : (strs (H := H) l).length = l.length := by simp [strs]
      omega
/-- The bulk of a list of texts: their sizes with one more each. -/
theorem bulk_strs {H : Type} {ds : List (DataW H)} {d : DataW H} {l : List ByteArray} (hk : Rows.uptoSmall H ds = true) (hd : d ∈ ds) (h : (d = .nil ∧ l = []) ∨ ∃ rest, d = .slice (strs l) rest) : (l.map fun n => n.size + 1).sum ≤ 1048576 := by
  rcases h with ⟨_, rfl⟩ | ⟨rest, rfl⟩
  · simp
  · have h1 := bulk_in hk hd
    have h2 : Rows.uptoBulkAll (strs (H := H) l) = (l.map fun n => n.size + 1).sum := by
      induction l with
      | nil => rfl
      | cons x l ih =>
        show Rows.uptoBulk (DataW.lit (.string x.data.toList)) + Rows.uptoBulkAll (strs l) = _
        have hi : Rows.uptoBulkAll (strs (H := H) l) = (l.map fun n => n.size + 1).sum := by
          clear ih h1 hd
          induction l with
          | nil => rfl
          | cons y l ih =>
            show Rows.uptoBulk (DataW.lit (.string y.data.toList)) + Rows.uptoBulkAll (strs l) = _
            rw [ih]
            simp only [Rows.uptoBulk, Array.length_toList, List.map_cons, List.sum_cons]
            rfl
        rw [hi]
        simp only [Rows.uptoBulk, Array.length_toList, List.map_cons, List.sum_cons]
        rfl
    simp only [Rows.uptoBulk] at h1
    omega
end Go.Proofs.YthnfaipbkocljaaDoor.RowAid
