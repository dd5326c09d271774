/- TextTabs, the plain law: runs of blanks within a line, on both sides of Unexpand. Conditions: the stops are from 1 to 1000, the text is at most 2^20 bytes. -/
import Derived.Test.YtkfpghggejikiaaPn2
namespace Go.Proofs.Ytkfpghggejikiaa.Pure
set_option linter.unusedSimpArgs false
open Go.RowKit Go.Proofs.Ytkfpghggejikiaa.P Go.Proofs.YtkfpghggejikiaaW.PrintWords Go.Proofs.YtkfpghggejikiaaW.PrintLast Go.Proofs.YtkfpghggejikiaaW.PrintMore

def bl (b : Int) : Prop := b = 32 ∨ b = 9
theorem tblank (b : Int) (h : bl b) : text_blank.f b = some true := by
  unfold text_blank.f
  rcases h with rfl | rfl <;> rfl
theorem tnblank (b : Int) (h : ¬ bl b) : text_blank.f b = some false := by
  unfold text_blank.f
  have h1 : b ≠ 32 := fun e => h (.inl e)
  have h2 : b ≠ 9 := fun e => h (.inr e)
  simp [h1, h2]

/-- One line in a text: it lies at s, is m long, none of it a line end, and behind it the text ends or a line end stands. -/
structure Ln (x ln : List Int) (s : Nat) : Prop where
  fit : s + ln.length ≤ x.length
  at_ : ∀ i : Nat, i < ln.length → rd x ((s + i : Nat) : Int) = rd ln (i : Int)
  no : ∀ i : Nat, i < ln.length → rd ln (i : Int) ≠ 10
  stop : s + ln.length = x.length ∨ rd x ((s + ln.length : Nat) : Int) = 10

/-- The blanks from i on: both sides go over them to j, where none stands, and come to the same column. -/
theorem scans {l : List Int} (h : OkS l) (hl : l.length ≤ 1099511627776) {x ln : List Int} {s : Nat} (hx : x.length ≤ 1048576) (L : Ln x ln s) (all : Bool) (x8 : List (List Int)) (ended : Bool) (x10 : Int) (out : List Int) (c0 : Int) (b : Bool) (i0 : Int) (P : List Int) (x15 x16 x26 x27 : Int) : ∀ (n i : Nat) (c : Int), i + n = ln.length → 0 ≤ c → c ≤ 1000 * i →
    ∃ (j : Nat) (c' : Int), i ≤ j ∧ j ≤ ln.length ∧ c + ((j : Int) - i) ≤ c' ∧ c' ≤ c + 1000 * ((j : Int) - i) ∧ (∀ t : Nat, i ≤ t → t < j → bl (rd ln (t : Int))) ∧ (j < ln.length → ¬ bl (rd ln (j : Int))) ∧
    (∀ R, Ev (fun k => text_Unexpand.j3 k x all (st l) P c0 b i0 ((s + j : Nat) : Int) c' false) R → Ev (fun k => text_Unexpand.l1 k x all (st l) P c0 b i0 ((s + i : Nat) : Int) c) R) ∧
    (∀ R, Ev (fun k => tinselref15_Unexpand.j3 k l all x8 ended x10 ln out c' (j : Int) x15 x16 x26 x27) R → Ev (fun k => tinselref15_Unexpand.l2 k l all x8 ended x10 ln out c (i : Int) x15 x16 x26 x27) R)
  | 0, i, c, hi, hc, hc' => by
    refine ⟨i, c, Nat.le_refl _, by omega, by omega, by omega, fun t h1 h2 => absurd h2 (by omega), fun hj => absurd hj (by omega), fun R hR => ?_, fun R hR => ?_⟩
    · refine Ev.step (fun k => by rw [text_Unexpand.l1]) ?_
      have hf := L.fit
      rcases L.stop with e | e
      · simp only [show ¬ ((s + i : Nat) : Int) < x.length by omega, if_false]
        exact hR
      · by_cases hlt : s + i < x.length
        · have e2 : rd x ((s + i : Nat) : Int) = 10 := by rw [show s + i = s + ln.length by omega]; exact e
          simp only [show ((s + i : Nat) : Int) < x.length by omega, if_true, show (0 : Int) ≤ ((s + i : Nat) : Int) by omega, e2, tnblank 10 (by unfold bl; omega), Option.bind_some]
          exact hR
        · simp only [show ¬ ((s + i : Nat) : Int) < x.length by omega, if_false]
          exact hR
    · refine Ev.step (fun k => by rw [tinselref15_Unexpand.l2]) ?_
      simp only [show ¬ (i : Int) < ln.length by omega, if_false]
      exact hR
  | n + 1, i, c, hi, hc, hc' => by
    have hf := L.fit
    have ha := L.at_ i (by omega)
    have N := nx_in (st l) c (st_ok l h) hc
    by_cases hb : bl (rd ln (i : Int))
    · obtain ⟨c2, hc2⟩ : ∃ c2, c2 = if rd ln (i : Int) = 9 then (nx (st l) c).1 else c + 1 := ⟨_, rfl⟩
      have hc3 : c + 1 ≤ c2 ∧ c2 ≤ c + 1000 := by
        rw [hc2]
        split <;> omega
      obtain ⟨j, c', h1, h2, h3, h4, h5, h6, ht, hr⟩ := scans h hl hx L all x8 ended x10 out c0 b i0 P x15 x16 x26 x27 n (i + 1) c2 (by omega) (by omega) (by omega)
      refine ⟨j, c', by omega, h2, by omega, by omega, fun t g1 g2 => ?_, h6, fun R hR => ?_, fun R hR => ?_⟩
      · by_cases e : t = i
        · rw [e]; exact hb
        · exact h5 t (by omega) g2
      · have ih := ht R hR
        refine Ev.step (fun k => by rw [text_Unexpand.l1]) ?_
        simp only [show ((s + i : Nat) : Int) < x.length by omega, if_true, show (0 : Int) ≤ ((s + i : Nat) : Int) by omega, ha, tblank _ hb, Option.bind_some]
        refine Ev.step (fun k => by rw [text_Unexpand.j3]) ?_
        simp only [show ((s + i : Nat) : Int) < x.length by omega, if_true, show (0 : Int) ≤ ((s + i : Nat) : Int) by omega, ha, w64s (s + i) (by omega)]
        by_cases h9 : rd ln (i : Int) = 9
        · simp only [h9, if_true] at hc2 ⊢
          refine Ev.bind (tnext c (st l) (st_ok l h) hc (by omega) (st_len l hl)) ?_
          rw [hc2] at ih
          exact ih
        · simp only [h9, if_false] at hc2 ⊢
          rw [hc2] at ih
          simp only [w64 (c + 1) (by omega) (by omega)]
          exact ih
      · have ih := hr R hR
        refine Ev.step (fun k => by rw [tinselref15_Unexpand.l2]) ?_
        simp only [show (i : Int) < ln.length by omega, if_true, show (0 : Int) ≤ (i : Int) by omega, w64s i (by omega)]
        have S := rstep c (rd ln (i : Int)) l h hc (by omega) hl
        rcases hb with e | e
        · simp only [e, if_true, show ¬ (32 : Int) = 9 by omega, if_false] at hc2 S ⊢
          refine Ev.bind S ?_
          have : col c 32 = c + 1 := by unfold col; simp
          rw [this, ← hc2]
          exact ih
        · simp only [e, if_true, show ¬ (9 : Int) = 32 by omega, if_false] at hc2 S ⊢
          refine Ev.bind S ?_
          rw [← hc2]
          exact ih
    · refine ⟨i, c, Nat.le_refl _, by omega, by omega, by omega, fun t h1 h2 => absurd h2 (by omega), fun _ => hb, fun R hR => ?_, fun R hR => ?_⟩
      · refine Ev.step (fun k => by rw [text_Unexpand.l1]) ?_
        simp only [show ((s + i : Nat) : Int) < x.length by omega, if_true, show (0 : Int) ≤ ((s + i : Nat) : Int) by omega, ha, tnblank _ hb, Option.bind_some]
        exact hR
      · refine Ev.step (fun k => by rw [tinselref15_Unexpand.l2]) ?_
        have h1 : ¬ rd ln (i : Int) = 32 := fun e => hb (.inl e)
        have h2 : ¬ rd ln (i : Int) = 9 := fun e => hb (.inr e)
        simp only [show (i : Int) < ln.length by omega, if_true, show (0 : Int) ≤ (i : Int) by omega, h1, h2, if_false]
        exact hR

/-- The blanks from i on where they are no line's first and not all are asked for: the code puts each out as it is, the document goes over them. -/
theorem copies {l : List Int} (h : OkS l) (hl : l.length ≤ 1099511627776) {x ln : List Int} {s : Nat} (hx : x.length ≤ 1048576) (L : Ln x ln s) (x8 : List (List Int)) (ended : Bool) (x10 : Int) (out P : List Int) (x15 x16 x26 x27 : Int) : ∀ (n i : Nat) (c : Int) (Q : List Int), i + n = ln.length → 0 ≤ c → c ≤ 1000 * i → Q.length ≤ 2199023255552 + i →
    ∃ (j : Nat) (c' : Int), i ≤ j ∧ j ≤ ln.length ∧ 0 ≤ c' ∧ c' ≤ 1000 * j ∧ (∀ t : Nat, i ≤ t → t < j → bl (rd ln (t : Int))) ∧ (j < ln.length → ¬ bl (rd ln (j : Int))) ∧
    (∀ R, Ev (fun k => text_Unexpand.l0 k x false (st l) (Q ++ (ln.take j).drop i) c' false ((s + j : Nat) : Int)) R → Ev (fun k => text_Unexpand.l0 k x false (st l) Q c false ((s + i : Nat) : Int)) R) ∧
    (∀ R, Ev (fun k => tinselref15_Unexpand.j3 k l false x8 ended x10 ln out c' (j : Int) x15 x16 x26 x27) R → Ev (fun k => tinselref15_Unexpand.l2 k l false x8 ended x10 ln out c (i : Int) x15 x16 x26 x27) R)
  | 0, i, c, Q, hi, hc, hc', hQ => by
    refine ⟨i, c, Nat.le_refl _, by omega, hc, hc', fun t h1 h2 => absurd h2 (by omega), fun hj => absurd hj (by omega), fun R hR => ?_, fun R hR => ?_⟩
    · rw [List.drop_eq_nil_of_le (by simp; omega), List.append_nil] at hR
      exact hR
    · refine Ev.step (fun k => by rw [tinselref15_Unexpand.l2]) ?_
      simp only [show ¬ (i : Int) < ln.length by omega, if_false]
      exact hR
  | n + 1, i, c, Q, hi, hc, hc', hQ => by
    have hf := L.fit
    have ha := L.at_ i (by omega)
    have N := nx_in (st l) c (st_ok l h) hc
    by_cases hb : bl (rd ln (i : Int))
    · obtain ⟨c2, hc2⟩ : ∃ c2, c2 = if rd ln (i : Int) = 9 then (nx (st l) c).1 else c + 1 := ⟨_, rfl⟩
      have hc3 : c + 1 ≤ c2 ∧ c2 ≤ c + 1000 := by
        rw [hc2]
        split <;> omega
      obtain ⟨j, c', h1, h2, h3, h4, h5, h6, ht, hr⟩ := copies h hl hx L x8 ended x10 out P x15 x16 x26 x27 n (i + 1) c2 (Q ++ [rd ln (i : Int)]) (by omega) (by omega) (by omega) (by simp; omega)
      refine ⟨j, c', by omega, h2, h3, h4, fun t g1 g2 => ?_, h6, fun R hR => ?_, fun R hR => ?_⟩
      · by_cases e : t = i
        · rw [e]; exact hb
        · exact h5 t (by omega) g2
      · have ed : (ln.take j).drop i = rd ln (i : Int) :: (ln.take j).drop (i + 1) := by
          rw [drop_rd (ln.take j) i (by simp; omega)]
          congr 1
          simp [rd, List.getD_eq_getElem?_getD, List.getElem?_take, show i < j by omega]
        rw [ed] at hR
        have ih := ht R (by simpa using hR)
        refine Ev.step (fun k => by rw [text_Unexpand.l0]) ?_
        simp only [show ((s + i : Nat) : Int) < x.length by omega, if_true, show (0 : Int) ≤ ((s + i : Nat) : Int) by omega, ha, tblank _ hb, Option.bind_some, Bool.false_eq_true, if_false, Bool.not_false]
        refine Ev.step (fun k => by rw [text_Unexpand.j1]) ?_
        simp only [show ((s + i : Nat) : Int) < x.length by omega, if_true, show (0 : Int) ≤ ((s + i : Nat) : Int) by omega, ha, Option.bind_some, show Q.length < 140737488355328 by omega, w64s (s + i) (by omega)]
        rcases hb with e | e
        · simp only [e, show ¬ (32 : Int) = 9 by omega, if_false, tstep c 32 (by omega) hc (by omega), show ¬ (32 : Int) = 10 by omega, Option.bind_some] at hc2 ih ⊢
          have : col c 32 = c + 1 := by unfold col; simp
          rw [this, ← hc2]
          exact ih
        · simp only [e, if_true] at hc2 ih ⊢
          refine Ev.bind (tnext c (st l) (st_ok l h) hc (by omega) (st_len l hl)) ?_
          rw [← hc2]
          exact ih
      · have ih := hr R hR
        refine Ev.step (fun k => by rw [tinselref15_Unexpand.l2]) ?_
        simp only [show (i : Int) < ln.length by omega, if_true, show (0 : Int) ≤ (i : Int) by omega, w64s i (by omega)]
        have S := rstep c (rd ln (i : Int)) l h hc (by omega) hl
        rcases hb with e | e
        · simp only [e, if_true, show ¬ (32 : Int) = 9 by omega, if_false] at hc2 S ⊢
          refine Ev.bind S ?_
          have : col c 32 = c + 1 := by unfold col; simp
          rw [this, ← hc2]
          exact ih
        · simp only [e, if_true, show ¬ (9 : Int) = 32 by omega, if_false] at hc2 S ⊢
          refine Ev.bind S ?_
          rw [← hc2]
          exact ih
    · refine ⟨i, c, Nat.le_refl _, by omega, hc, hc', fun t h1 h2 => absurd h2 (by omega), fun _ => hb, fun R hR => ?_, fun R hR => ?_⟩
      · rw [List.drop_eq_nil_of_le (by simp; omega), List.append_nil] at hR
        exact hR
      · refine Ev.step (fun k => by rw [tinselref15_Unexpand.l2]) ?_
        have h1 : ¬ rd ln (i : Int) = 32 := fun e => hb (.inl e)
        have h2 : ¬ rd ln (i : Int) = 9 := fun e => hb (.inr e)
        simp only [show (i : Int) < ln.length by omega, if_true, show (0 : Int) ≤ (i : Int) by omega, h1, h2, if_false]
        exact hR
end Go.Proofs.Ytkfpghggejikiaa.Pure
