/- TextTabs, the plain law: one line of Unexpand, on both sides. Conditions: the stops are from 1 to 1000, the text is at most 2^20 bytes. -/
import Derived.Test.YtkfpghggejikiaaPn3
namespace Go.Proofs.Ytkfpghggejikiaa.Pure
set_option linter.unusedSimpArgs false
open Go.RowKit Go.Proofs.Ytkfpghggejikiaa.P Go.Proofs.YtkfpghggejikiaaW.PrintWords Go.Proofs.YtkfpghggejikiaaW.PrintLast Go.Proofs.YtkfpghggejikiaaW.PrintMore

theorem drop_take_one (ln : List Int) (i : Nat) (h : i < ln.length) : (ln.take (i + 1)).drop i = [rd ln (i : Int)] := by
  rw [drop_rd (ln.take (i + 1)) i (by simp; omega), List.drop_eq_nil_of_le (by simp; omega)]
  simp [rd, List.getD_eq_getElem?_getD, List.getElem?_take]
theorem len_slice (ln : List Int) (i j : Nat) (h : j ≤ ln.length) : ((ln.take j).drop i).length = j - i := by
  simp; omega

theorem truns {l : List Int} (h : OkS l) (hl : l.length ≤ 1099511627776) (a b : Int) (h0 : 0 ≤ a) (hab : a ≤ b) (hb : b ≤ 1099511627776) : ∃ y, (y.length : Int) ≤ b - a ∧ Ev (fun k => text_stopped_run.f k (st l) a b) y ∧ Ev (fun k => tinselref15_run.f k a b l) y := by
  obtain ⟨y, h1, h2, h3⟩ := runs l h hl b hb (b - a).toNat a [] h0 hab (Nat.le_refl _) (by simp; omega)
  rw [List.nil_append] at h2 h3
  exact ⟨y, by omega, h2, h3⟩

/-- A line from its byte i on: both sides add the same. -/
theorem line {l : List Int} (h : OkS l) (hl : l.length ≤ 1099511627776) {x ln : List Int} {s : Nat} (hx : x.length ≤ 1048576) (L : Ln x ln s) (all : Bool) (x8 : List (List Int)) (ended : Bool) (x10 x26 x27 : Int) (P : List Int) (hP : P.length ≤ 1099511627776) : ∀ (n i : Nat) (c : Int) (out : List Int), ln.length ≤ i + n → i ≤ ln.length → 0 ≤ c → c ≤ 1000 * i → out.length ≤ 1000 * i →
    ∃ (y : List Int) (c' : Int) (b : Bool), 0 ≤ c' ∧ c' ≤ 1000 * ln.length ∧ y.length ≤ 1000 * ln.length ∧
    (∀ R, Ev (fun k => text_Unexpand.l0 k x all (st l) (P ++ y) c' b ((s + ln.length : Nat) : Int)) R → Ev (fun k => text_Unexpand.l0 k x all (st l) (P ++ out) c (decide (i = 0)) ((s + i : Nat) : Int)) R) ∧
    (∀ R, Ev (fun k => tinselref15_Unexpand.l1 k l all x8 ended x10 ln y c' (ln.length : Int) x26 x27) R → Ev (fun k => tinselref15_Unexpand.l1 k l all x8 ended x10 ln out c (i : Int) x26 x27) R) := by
  intro n
  induction n with
  | zero =>
    intro i c out hi hi2 hc hc' ho
    obtain rfl : i = ln.length := by omega
    exact ⟨out, c, _, hc, hc', ho, fun R hR => hR, fun R hR => hR⟩
  | succ n ih =>
  intro i c out hi hi2 hc hc' ho
  by_cases hlt : i = ln.length
  · subst hlt
    exact ⟨out, c, _, hc, hc', ho, fun R hR => hR, fun R hR => hR⟩
  have hf := L.fit
  have ha := L.at_ i (by omega)
  have hno := L.no i (by omega)
  have hlen : (P ++ out).length ≤ 2199023255552 := by simp; omega
  by_cases hb : bl (rd ln (i : Int))
  · by_cases hcp : i ≠ 0 ∧ all = false
    · -- copied as they are
      obtain ⟨hi0, rfl⟩ := hcp
      obtain ⟨j, c2, h1, h2, h3, h4, h5, h6, ht, hr⟩ := copies h hl hx L x8 ended x10 out P c i x26 x27 (ln.length - i) i c (P ++ out) (by omega) hc hc' (by simp; omega)
      have hij : i < j := by
        by_cases e : j = i
        · exact absurd hb (by rw [← e]; exact h6 (by omega))
        · omega
      have hsl := len_slice ln i j h2
      obtain ⟨y, c', b, g1, g2, g3, gt, gr⟩ := ih j c2 (out ++ (ln.take j).drop i) (by omega) h2 h3 h4 (by rw [List.length_append, hsl]; omega)
      refine ⟨y, c', b, g1, g2, g3, fun R hR => ?_, fun R hR => ?_⟩
      · have := gt R hR
        rw [show decide (j = 0) = false by simp; omega, ← List.append_assoc] at this
        rw [show decide (i = 0) = false by simp; omega]
        exact ht R this
      · have := gr R hR
        refine Ev.step (fun k => by rw [tinselref15_Unexpand.l1]) ?_
        simp only [show (i : Int) < ln.length by omega, if_true]
        refine hr R ?_
        refine Ev.step (fun k => by rw [tinselref15_Unexpand.j3]) ?_
        simp only [gt_iff_lt, show (i : Int) < j by omega, if_true, show (0 : Int) < i by omega, Bool.false_eq_true, if_false]
        refine Ev.step (fun k => by rw [tinselref15_Unexpand.j4]) ?_
        simp only [if_true, show (0 : Int) ≤ i by omega, show (i : Int) ≤ j by omega, show (j : Int) ≤ ln.length by omega, Int.toNat_natCast, hsl, show out.length + (j - i) < 140737488355328 by omega]
        exact this
    · -- put out anew (one space inside a line stands as it is)
      obtain ⟨j, c2, h1, h2, h3, h4, h5, h6, ht, hr⟩ := scans h hl hx L all x8 ended x10 out c (decide (i = 0)) ((s + i : Nat) : Int) (P ++ out) c i x26 x27 (ln.length - i) i c (by omega) hc hc'
      have hij : i < j := by
        by_cases e : j = i
        · exact absurd hb (by rw [← e]; exact h6 (by omega))
        · omega
      obtain ⟨t, e1, et, er⟩ := truns h hl c c2 hc (by omega) (by omega)
      obtain ⟨z, hz⟩ : ∃ z, z = if j = i + 1 ∧ rd ln (i : Int) = 32 ∧ i ≠ 0 then [32] else t := ⟨_, rfl⟩
      have hzl : z.length ≤ 1000 * (j - i) := by
        rw [hz]
        split
        · simp; omega
        · omega
      obtain ⟨y, c', b, g1, g2, g3, gt, gr⟩ := ih j c2 (out ++ z) (by omega) h2 (by omega) (by omega) (by rw [List.length_append]; omega)
      refine ⟨y, c', b, g1, g2, g3, fun R hR => ?_, fun R hR => ?_⟩
      · have T := gt R hR
        rw [show decide (j = 0) = false by simp; omega, ← List.append_assoc] at T
        have hj1 : (decide (i = 0) = true) ∨ ((decide (i = 0) = false) ∧ all = true) := by
          by_cases e : i = 0
          · exact .inl (by simpa using e)
          · refine .inr ⟨by simpa using e, ?_⟩
            cases all
            · exact absurd ⟨e, rfl⟩ hcp
            · rfl
        have key : Ev (fun k => text_Unexpand.j1 k x all (st l) (P ++ out) c (decide (i = 0)) ((s + i : Nat) : Int) false) R := by
          refine Ev.step (fun k => by rw [text_Unexpand.j1]) ?_
          simp only [Bool.false_eq_true, if_false]
          refine ht R ?_
          refine Ev.step (fun k => by rw [text_Unexpand.j3]) ?_
          simp only [Bool.false_eq_true, if_false, w64s (s + i) (by omega), show ((s + i : Nat) : Int) < x.length by omega, show (0 : Int) ≤ ((s + i : Nat) : Int) by omega, if_true, ha]
          have run : z = t → Ev (fun k => (text_stopped_run.f k (st l) c c2).bind fun t357 => (if (P ++ out).length + t357.length < 140737488355328 then (text_Unexpand.l0 k x all (st l) ((P ++ out) ++ t357) c2 false ((s + j : Nat) : Int)) else none)) R := by
            intro e
            refine Ev.bind et ?_
            simp only [show (P ++ out).length + t.length < 140737488355328 by omega, if_true]
            rw [e] at T
            exact T
          by_cases hj : j = i + 1
          · simp only [show ((s + j : Nat) : Int) = ((s + i + 1 : Nat) : Int) by omega, if_true]
            have run2 := run
            simp only [show ((s + j : Nat) : Int) = ((s + i + 1 : Nat) : Int) by omega] at run2
            by_cases h3 : rd ln (i : Int) = 32
            · simp only [h3, if_true]
              by_cases h0 : i = 0
              · simp only [h0, decide_true, if_true]
                subst h0
                exact run2 (by rw [hz, if_neg (by omega)])
              · simp only [h0, decide_false, Bool.false_eq_true, if_false, show (P ++ out).length < 140737488355328 by omega, if_true]
                have ez : z = [32] := by rw [hz, if_pos ⟨hj, h3, h0⟩]
                rw [ez, show ((s + j : Nat) : Int) = ((s + i + 1 : Nat) : Int) by omega] at T
                exact T
            · simp only [h3, if_false]
              exact run2 (by rw [hz, if_neg (by omega)])
          · simp only [show ¬ ((s + j : Nat) : Int) = ((s + i + 1 : Nat) : Int) by omega, if_false]
            exact run (by rw [hz, if_neg (by omega)])
        refine Ev.step (fun k => by rw [text_Unexpand.l0]) ?_
        simp only [show ((s + i : Nat) : Int) < x.length by omega, if_true, show (0 : Int) ≤ ((s + i : Nat) : Int) by omega, ha, tblank _ hb, Option.bind_some]
        rcases hj1 with e | ⟨e, rfl⟩
        · simp only [e, if_true] at key ⊢
          exact key
        · simp only [e, Bool.false_eq_true, if_false, Bool.not_true] at key ⊢
          exact key
      · have T := gr R hR
        refine Ev.step (fun k => by rw [tinselref15_Unexpand.l1]) ?_
        simp only [show (i : Int) < ln.length by omega, if_true]
        refine hr R ?_
        refine Ev.step (fun k => by rw [tinselref15_Unexpand.j3]) ?_
        simp only [gt_iff_lt, show (i : Int) < j by omega, if_true]
        have run : z = t → Ev (fun k => tinselref15_Unexpand.j4 k l all x8 ended x10 ln out c2 (j : Int) c (i : Int) x26 x27 false) R := by
          intro e
          refine Ev.step (fun k => by rw [tinselref15_Unexpand.j4]) ?_
          simp only [Bool.false_eq_true, if_false]
          refine Ev.bind er ?_
          simp only [show out.length + t.length < 140737488355328 by omega, if_true]
          rw [e] at T
          exact T
        by_cases h0 : i = 0
        · simp only [show ¬ (0 : Int) < i by omega, if_false]
          exact run (by rw [hz, if_neg (by omega)])
        · obtain rfl : all = true := by
            cases all
            · exact absurd ⟨h0, rfl⟩ hcp
            · rfl
          simp only [show (0 : Int) < i by omega, if_true, w64 ((j : Int) - i) (by omega) (by omega)]
          by_cases hj : j = i + 1
          · simp only [show (j : Int) - i = 1 by omega, if_true, show (0 : Int) ≤ i by omega, show (i : Int) < ln.length by omega]
            by_cases h3 : rd ln (i : Int) = 32
            · simp only [h3, beq_self_eq_true]
              have ez : z = [32] := by rw [hz, if_pos ⟨hj, h3, h0⟩]
              refine Ev.step (fun k => by rw [tinselref15_Unexpand.j4]) ?_
              have e5 : (ln.take j).drop i = [32] := by rw [hj, drop_take_one ln i (by omega), h3]
              simp only [if_true, show (0 : Int) ≤ i by omega, show (i : Int) ≤ j by omega, show (j : Int) ≤ ln.length by omega, Int.toNat_natCast, e5, List.length_singleton, show out.length + 1 < 140737488355328 by omega]
              rw [ez] at T
              exact T
            · simp only [show (rd ln (i : Int) == 32) = false by simpa using h3]
              exact run (by rw [hz, if_neg (by omega)])
          · simp only [show ¬ (j : Int) - i = 1 by omega, if_false]
            exact run (by rw [hz, if_neg (by omega)])
  · -- a byte that is no blank
    have h9 : rd ln (i : Int) ≠ 9 := fun e => hb (.inr e)
    have h32 : rd ln (i : Int) ≠ 32 := fun e => hb (.inl e)
    have C := col_in c (rd ln (i : Int)) hc
    obtain ⟨y, c', b, g1, g2, g3, gt, gr⟩ := ih (i + 1) (col c (rd ln (i : Int))) (out ++ [rd ln (i : Int)]) (by omega) (by omega) C.1 (by omega) (by simp; omega)
    refine ⟨y, c', b, g1, g2, g3, fun R hR => ?_, fun R hR => ?_⟩
    · have := gt R hR
      rw [show decide (i + 1 = 0) = false by simp, ← List.append_assoc] at this
      refine Ev.step (fun k => by rw [text_Unexpand.l0]) ?_
      simp only [show ((s + i : Nat) : Int) < x.length by omega, if_true, show (0 : Int) ≤ ((s + i : Nat) : Int) by omega, ha, tnblank _ hb, Option.bind_some, Bool.false_eq_true, if_false]
      refine Ev.step (fun k => by rw [text_Unexpand.j1]) ?_
      simp only [show ((s + i : Nat) : Int) < x.length by omega, if_true, show (0 : Int) ≤ ((s + i : Nat) : Int) by omega, ha, Option.bind_some, show (P ++ out).length < 140737488355328 by omega, w64s (s + i) (by omega), h9, if_false, tstep c _ h9 hc (by omega), hno, show (rd ln (i : Int) == 10) = false by simpa using hno]
      exact this
    · have := gr R hR
      refine Ev.step (fun k => by rw [tinselref15_Unexpand.l1]) ?_
      simp only [show (i : Int) < ln.length by omega, if_true]
      refine Ev.step (fun k => by rw [tinselref15_Unexpand.l2]) ?_
      simp only [show (i : Int) < ln.length by omega, if_true, show (0 : Int) ≤ (i : Int) by omega, h9, h32, if_false]
      refine Ev.step (fun k => by rw [tinselref15_Unexpand.j3]) ?_
      simp only [gt_iff_lt, Int.lt_irrefl, if_false, show (i : Int) < ln.length by omega, if_true, show (0 : Int) ≤ (i : Int) by omega, show out.length < 140737488355328 by omega, w64s i (by omega)]
      refine Ev.bind (rstep c (rd ln (i : Int)) l h hc (by omega) hl) ?_
      simp only [h9, if_false]
      exact this
end Go.Proofs.Ytkfpghggejikiaa.Pure
