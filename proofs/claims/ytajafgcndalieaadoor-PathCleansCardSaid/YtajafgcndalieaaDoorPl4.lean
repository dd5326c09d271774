/- The law PathCleans, the plain part: Clean and Join answer as the document's, at every path and list. -/
import Derived.Test.YtajafgcndalieaaDoorPl3
import Derived.Test.YtajafgcndalieaaDoorPe
import Derived.Test.YtajafgcndalieaaDoorPx11
namespace Go.Proofs.YtajafgcndalieaaDoor.Pure
set_option linter.unusedSimpArgs false
set_option linter.unusedVariables false
open Go.RowKit Go.Proofs.YtajafgcndalieaaDoor.P Go.Proofs.YtajafgcndalieaaDoorW.PrintWords Go.Proofs.YtajafgcndalieaaDoorW.PrintLast Go.Proofs.YtajafgcndalieaaDoorW.PrintMore
theorem wt_take (l : List ByteArray) (i : Nat) (h : i < l.length) : wt (l.take (i + 1)) = wt (l.take i) + (l[i].size + 1) := by
  rw [List.take_succ_eq_append_getElem h, wt_app, wt_cons, wt_nil]
theorem pathCleans_l0 (s : ByteArray) (l : List ByteArray) (hs : s.size ≤ 140737488351232) (hl : ∀ x ∈ l, x.size ≤ 140737488351232) (hn : l.length ≤ 140737488351232) : ∀ (n i : Nat), i + n = l.length → (i = 0 ∨ s.size + wt (l.take i) ≤ 5000) →
    Ev (fun k => tinsellaw03_PathCleans.l0 k s l ((s.size + wt (l.take i) : Nat) : Int) l (l.length : Int) (i : Int)) true
  | 0, i, hi, hb => by
    refine Ev.step (fun k => by rw [tinsellaw03_PathCleans.l0]) ?_
    obtain rfl : i = l.length := by omega
    rw [List.take_length]
    simp only [show ¬ (l.length : Int) < l.length by omega, if_false]
    by_cases h : s.size + wt l ≤ 5000
    · simp only [gt_iff_lt, show ¬ (5000 : Int) < ((s.size + wt l : Nat) : Int) by omega, if_false]
      refine Ev.bind (pClean s (by omega)) (Ev.bind (rClean s (by omega)) ?_)
      simp only [if_true]
      refine Ev.bind (pJoin l (by omega)) (Ev.bind (rJoin l (by omega)) ?_)
      simp only [if_true]
      exact Ev.bind lives (Ev.now _)
    · simp only [gt_iff_lt, show (5000 : Int) < ((s.size + wt l : Nat) : Int) by omega, if_true]
      exact Ev.bind lives (Ev.now _)
  | n + 1, i, hi, hb => by
    refine Ev.step (fun k => by rw [tinsellaw03_PathCleans.l0]) ?_
    have hlt : i < l.length := by omega
    have hx := hl l[i] (List.getElem_mem hlt)
    have hw := wt_take l i hlt
    have h0 : s.size + wt (l.take i) ≤ 140737488356232 := by
      rcases hb with rfl | hb
      · rw [List.take_zero, wt_nil]; omega
      · omega
    have e1 : wrap64 ((l[i].size : Int) + 1) = (l[i].size : Int) + 1 := by unfold wrap64; omega
    have e2 : wrap64 (((s.size + wt (l.take i) : Nat) : Int) + ((l[i].size : Int) + 1)) = ((s.size + wt (l.take (i + 1)) : Nat) : Int) := by rw [hw]; unfold wrap64; omega
    simp only [show (i : Int) < l.length by omega, if_true, show (0 : Int) ≤ i by omega, w64s i (by omega), rdOf_at l i hlt, e1, e2]
    by_cases h : s.size + wt (l.take (i + 1)) ≤ 5000
    · simp only [gt_iff_lt, show ¬ (5000 : Int) < ((s.size + wt (l.take (i + 1)) : Nat) : Int) by omega, if_false]
      exact pathCleans_l0 s l hs hl hn n (i + 1) (by omega) (.inr h)
    · simp only [gt_iff_lt, show (5000 : Int) < ((s.size + wt (l.take (i + 1)) : Nat) : Int) by omega, if_true]
      exact Ev.bind lives (Ev.now _)
theorem PathCleans (s : ByteArray) (l : List ByteArray) (hs : s.size ≤ 140737488351232) (hl : ∀ x ∈ l, x.size ≤ 140737488351232) (hn : l.length ≤ 140737488351232) : ∃ k, tinsellaw03_PathCleans.f k s l = some true := by
  refine Ev.rounds (g := fun k => tinsellaw03_PathCleans.f k s l) ?_
  have := pathCleans_l0 s l hs hl hn l.length 0 (by omega) (.inl rfl)
  rw [List.take_zero, wt_nil, Nat.add_zero] at this
  exact this
end Go.Proofs.YtajafgcndalieaaDoor.Pure
