/- TextTabs, the plain law: Lines and Whole of the document, in plain words. Conditions: the text is at most 2^20 bytes. -/
import Derived.Test.YtkfpghggejikiaaPn1
import Derived.Test.YtkfpghggejikiaaPx10
import Derived.Test.YtkfpghggejikiaaUnxD
namespace Go.Proofs.Ytkfpghggejikiaa.Pure
set_option linter.unusedSimpArgs false
open Go.RowKit Go.Proofs.Ytkfpghggejikiaa.P Go.Proofs.YtkfpghggejikiaaW.PrintWords Go.Proofs.YtkfpghggejikiaaW.PrintLast Go.Proofs.YtkfpghggejikiaaW.PrintMore

/-- Lines, in plain words: the bytes between the line ends, and whether the last one ended. -/
def sp : List Int → List (List Int) × Bool
  | [] => ([], true)
  | b :: r => if b = 10 then ([] :: (sp r).1, (sp r).2) else match (sp r).1 with
    | [] => ([[b]], false)
    | l :: ls => ((b :: l) :: ls, (sp r).2)
def whole : List (List Int) → Bool → List Int
  | [], _ => []
  | [y], e => if e = true then y ++ [10] else y
  | y :: z :: ys, e => y ++ (10 :: whole (z :: ys) e)
theorem sp_nil (r : List Int) (h : (sp r).1 = []) : r = [] ∧ (sp r).2 = true := by
  cases r with
  | nil => exact ⟨rfl, rfl⟩
  | cons b r =>
    exfalso
    revert h
    simp only [sp]
    split
    · simp
    · split <;> simp
theorem sp_cons : ∀ (z l : List Int) (ls : List (List Int)) (e : Bool), sp z = (l :: ls, e) →
    (∀ b ∈ l, b ≠ 10) ∧ ((z = l ∧ ls = [] ∧ e = false) ∨ ∃ r, z = l ++ 10 :: r ∧ sp r = (ls, e))
  | [], l, ls, e, h => by simp [sp] at h
  | b :: r, l, ls, e, h => by
    simp only [sp] at h
    by_cases hb : b = 10
    · simp only [hb, if_true, Prod.mk.injEq, List.cons.injEq] at h
      obtain ⟨⟨rfl, rfl⟩, rfl⟩ := h
      exact ⟨by simp, .inr ⟨r, by simp [hb], rfl⟩⟩
    · simp only [hb, if_false] at h
      cases hs : (sp r).1 with
      | nil =>
        rw [hs] at h
        simp only [Prod.mk.injEq, List.cons.injEq] at h
        obtain ⟨⟨rfl, rfl⟩, rfl⟩ := h
        obtain ⟨rfl, _⟩ := sp_nil r hs
        exact ⟨by simpa using hb, .inl ⟨rfl, rfl, rfl⟩⟩
      | cons l' ls' =>
        rw [hs] at h
        simp only [Prod.mk.injEq, List.cons.injEq] at h
        obtain ⟨⟨rfl, rfl⟩, rfl⟩ := h
        obtain ⟨h1, h2⟩ := sp_cons r l' ls' (sp r).2 (Prod.ext hs rfl)
        refine ⟨by simpa using ⟨hb, h1⟩, ?_⟩
        rcases h2 with ⟨e1, e2, e3⟩ | ⟨r', e1, e2⟩
        · exact .inl ⟨by rw [e1], e2, e3⟩
        · exact .inr ⟨r', by rw [e1]; rfl, e2⟩

def glue (cur : List Int) (o : Bool) (p : List (List Int) × Bool) : List (List Int) × Bool := if o = true then (match p.1 with
  | [] => ([cur], false)
  | l :: ls => ((cur ++ l) :: ls, p.2)) else p
theorem lines_l0 (x : List Int) (hx : x.length ≤ 1048576) : ∀ (n i : Nat) (ls : List (List Int)) (cur : List Int) (o : Bool), i + n = x.length → ls.length ≤ i → cur.length ≤ i → (o = false → cur = []) →
    Ev (fun k => tinselref15_Lines.l0 k ls cur o x (x.length : Int) (i : Int)) (ls ++ (glue cur o (sp (x.drop i))).1, (glue cur o (sp (x.drop i))).2)
  | 0, i, ls, cur, o, hi, h1, h2, ho => by
    refine Ev.step (fun k => by rw [tinselref15_Lines.l0]) ?_
    rw [List.drop_eq_nil_of_le (by omega)]
    simp only [show ¬ (i : Int) < x.length by omega, if_false]
    cases o
    · simp only [glue, sp, Bool.false_eq_true, if_false, List.append_nil, Bool.not_false]
      exact Ev.now _
    · simp only [glue, sp, if_true, show ls.length < 5864062014805 by omega, Bool.not_true]
      exact Ev.now _
  | n + 1, i, ls, cur, o, hi, h1, h2, ho => by
    refine Ev.step (fun k => by rw [tinselref15_Lines.l0]) ?_
    rw [drop_rd x i (by omega)]
    simp only [show (i : Int) < x.length by omega, if_true, show (0 : Int) ≤ i by omega, w64s i (by omega), show ls.length < 5864062014805 by omega, show cur.length < 140737488355328 by omega]
    by_cases hb : rd x (i : Int) = 10
    · simp only [hb, if_true]
      have := lines_l0 x hx n (i + 1) (ls ++ [cur]) [] false (by omega) (by simp; omega) (by simp) (fun _ => rfl)
      have e : ls ++ (glue cur o (sp (10 :: x.drop (i + 1)))).1 = ls ++ [cur] ++ (glue [] false (sp (x.drop (i + 1)))).1 ∧ (glue cur o (sp (10 :: x.drop (i + 1)))).2 = (glue [] false (sp (x.drop (i + 1)))).2 := by
        cases o
        · obtain rfl := ho rfl
          simp [glue, sp]
        · simp [glue, sp]
      rw [e.1, e.2]
      exact this
    · simp only [hb, if_false]
      have := lines_l0 x hx n (i + 1) ls (cur ++ [rd x i]) true (by omega) (by omega) (by simp; omega) (fun h => by cases h)
      have e : glue cur o (sp (rd x i :: x.drop (i + 1))) = glue (cur ++ [rd x i]) true (sp (x.drop (i + 1))) := by
        simp only [sp, hb, if_false]
        cases hs : (sp (x.drop (i + 1))).1 with
        | nil =>
          cases o
          · obtain rfl := ho rfl
            simp [glue, hs]
          · simp [glue, hs]
        | cons l' ls' =>
          cases o
          · obtain rfl := ho rfl
            simp [glue, hs]
          · simp [glue, hs]
      rw [e]
      exact this
theorem lines (x : List Int) (hx : x.length ≤ 1048576) : Ev (fun k => tinselref15_Lines.f k x) (sp x) := by
  have := lines_l0 x hx x.length 0 [] [] false (by omega) (by simp) (by simp) (fun _ => rfl)
  simp only [glue, Bool.false_eq_true, if_false, List.drop_zero, List.nil_append] at this
  exact this

theorem drop_L1 (l : List (List Int)) (i : Nat) (h : i < l.length) : l.drop i = rd_L1 l (i : Int) :: l.drop (i + 1) := by
  rw [List.drop_eq_getElem_cons h]
  simp [rd_L1, List.getD_eq_getElem?_getD, List.getElem?_eq_getElem h]
theorem whole_l0 (L : List (List Int)) (e : Bool) (hL : L.length ≤ 1099511627776) : ∀ (n i : Nat) (acc : List Int), i + n = L.length → acc.length + (whole (L.drop i) e).length ≤ 4398046511104 →
    Ev (fun k => tinselref15_Whole.l0 k L e acc L (L.length : Int) (i : Int)) (acc ++ whole (L.drop i) e)
  | 0, i, acc, hi, hb => by
    refine Ev.step (fun k => by rw [tinselref15_Whole.l0]) ?_
    rw [List.drop_eq_nil_of_le (by omega)]
    simp only [show ¬ (i : Int) < L.length by omega, if_false, whole, List.append_nil]
    exact Ev.now _
  | n + 1, i, acc, hi, hb => by
    refine Ev.step (fun k => by rw [tinselref15_Whole.l0]) ?_
    have hd := drop_L1 L i (by omega)
    rw [hd] at hb ⊢
    simp only [show (i : Int) < L.length by omega, if_true, show (0 : Int) ≤ i by omega, w64s i (by omega), w64 ((L.length : Int) - 1) (by omega) (by omega), Option.bind_some]
    by_cases hn : n = 0
    · have hz : L.drop (i + 1) = [] := List.drop_eq_nil_of_le (by omega)
      have ih := fun acc' h => whole_l0 L e hL n (i + 1) acc' (by omega) h
      rw [hz] at hb ih ⊢
      simp only [whole, List.length_nil, Nat.add_zero, List.append_nil] at ih
      simp only [show ¬ (i : Int) < (L.length : Int) - 1 by omega, if_false]
      cases e
      · simp only [whole, Bool.false_eq_true, if_false] at hb ⊢
        simp only [show acc.length + (rd_L1 L (i : Int)).length < 140737488355328 by omega, if_true]
        exact ih _ (by simp; omega)
      · simp only [whole, if_true, List.length_append, List.length_singleton] at hb ⊢
        simp only [show acc.length + (rd_L1 L (i : Int)).length < 140737488355328 by omega, if_true]
        have := ih (acc ++ rd_L1 L (i : Int) ++ [10]) (by simp; omega)
        simpa using this
    · have hd2 := drop_L1 L (i + 1) (by omega)
      have ih := whole_l0 L e hL n (i + 1) (acc ++ rd_L1 L (i : Int) ++ [10]) (by omega)
      rw [hd2] at hb ih ⊢
      simp only [whole, List.length_append, List.length_cons, List.length_nil] at hb ih ⊢
      simp only [show (i : Int) < (L.length : Int) - 1 by omega, if_true, show acc.length + (rd_L1 L (i : Int)).length < 140737488355328 by omega]
      have := ih (by omega)
      simpa using this
theorem wholes (L : List (List Int)) (e : Bool) (hL : L.length ≤ 1099511627776) (hb : (whole L e).length ≤ 4398046511104) : Ev (fun k => tinselref15_Whole.f k L e) (whole L e) := by
  have := whole_l0 L e hL L.length 0 [] (by omega) (by simpa using hb)
  simp only [List.drop_zero, List.nil_append] at this
  exact this
end Go.Proofs.Ytkfpghggejikiaa.Pure
