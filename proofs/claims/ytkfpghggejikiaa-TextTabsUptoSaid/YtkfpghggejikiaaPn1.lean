/- TextTabs, the plain law: the next stop, runs of blanks and Expand, on both sides. Conditions: the stops are from 1 to 1000, the text is at most 2^20 bytes. -/
import Derived.Test.YtkfpghggejikiaaPx9
import Derived.Test.YtkfpghggejikiaaPx11
import Derived.Test.YtkfpghggejikiaaPx8
import Derived.Test.YtkfpghggejikiaaPx9
import Derived.Test.YtkfpghggejikiaaPx7
import Derived.Test.YtkfpghggejikiaaPx7
import Derived.Test.YtkfpghggejikiaaPx7
namespace Go.Proofs.Ytkfpghggejikiaa.Pure
set_option linter.unusedSimpArgs false
open Go.RowKit Go.Proofs.Ytkfpghggejikiaa.P Go.Proofs.YtkfpghggejikiaaW.PrintWords Go.Proofs.YtkfpghggejikiaaW.PrintLast Go.Proofs.YtkfpghggejikiaaW.PrintMore

theorem w64 (n : Int) (h : -9223372036854775808 ≤ n) (h' : n ≤ 9223372036854775807) : wrap64 n = n := by unfold wrap64; omega
theorem w64s (i : Nat) (h : (i : Int) ≤ 9223372036854775806) : wrap64 ((i : Int) + 1) = ((i + 1 : Nat) : Int) := by unfold wrap64; omega
theorem drop_rd (l : List Int) (i : Nat) (h : i < l.length) : l.drop i = rd l (i : Int) :: l.drop (i + 1) := by
  rw [List.drop_eq_getElem_cons h]
  simp [rd, List.getD_eq_getElem?_getD, List.getElem?_eq_getElem h]

def OkS (l : List Int) : Prop := ∀ s ∈ l, 1 ≤ s ∧ s ≤ 1000
def st (l : List Int) : List Int := if l.length = 0 then [8] else l
def nf (l : List Int) (c : Int) : Int × Bool := match l.find? (fun s => decide (c < s)) with
  | some s => (s, true)
  | none => (c + 1, false)
def nx (l : List Int) (c : Int) : Int × Bool := if l.length = 1 then (c + rd l 0 - c % rd l 0, true) else nf l c
theorem nf_nil (c : Int) : nf [] c = (c + 1, false) := rfl
theorem nf_cons (s : Int) (l : List Int) (c : Int) : nf (s :: l) c = if c < s then (s, true) else nf l c := by
  unfold nf
  by_cases h : c < s <;> simp [h]
theorem nf_in (l : List Int) (c : Int) (h : OkS l) (hc : 0 ≤ c) : c < (nf l c).1 ∧ (nf l c).1 ≤ c + 1000 := by
  induction l with
  | nil => rw [nf_nil]; constructor <;> simp <;> omega
  | cons s l ih =>
    rw [nf_cons]
    have hs := h s (by simp)
    split
    · constructor <;> simp <;> omega
    · exact ih (fun x hx => h x (by simp [hx]))
theorem nx_in (l : List Int) (c : Int) (h : OkS l) (hc : 0 ≤ c) : c < (nx l c).1 ∧ (nx l c).1 ≤ c + 1000 := by
  unfold nx
  split
  · rename_i h1
    obtain ⟨s, rfl⟩ := List.length_eq_one_iff.mp h1
    have hs := h s (by simp)
    simp only [rd, Int.toNat_zero, List.getD_cons_zero]
    have := Int.emod_nonneg c (b := s) (by omega)
    have := Int.emod_lt_of_pos c (b := s) (by omega)
    omega
  · exact nf_in l c h hc

theorem tnext_l0 (c : Int) (l : List Int) (hc : 0 ≤ c) (hc' : c ≤ 1099511627776) (hl : l.length ≤ 1099511627776) : ∀ (n i : Nat), i + n = l.length →
    Ev (fun k => text_stopped_next.l0 k c l (l.length : Int) (i : Int)) (nf (l.drop i) c)
  | 0, i, h => by
    refine Ev.step (fun k => by rw [text_stopped_next.l0]) ?_
    rw [List.drop_eq_nil_of_le (by omega), nf_nil]
    simp only [show ¬ (i : Int) < l.length by omega, if_false, w64 (c + 1) (by omega) (by omega)]
    exact Ev.now _
  | n + 1, i, h => by
    refine Ev.step (fun k => by rw [text_stopped_next.l0]) ?_
    rw [drop_rd l i (by omega), nf_cons]
    simp only [show (i : Int) < l.length by omega, if_true, show (0 : Int) ≤ i by omega, gt_iff_lt, w64s i (by omega)]
    split
    · exact Ev.now _
    · exact tnext_l0 c l hc hc' hl n (i + 1) (by omega)
theorem tnext (c : Int) (l : List Int) (h : OkS l) (hc : 0 ≤ c) (hc' : c ≤ 1099511627776) (hl : l.length ≤ 1099511627776) :
    Ev (fun k => text_stopped_next.f k l c) (nx l c) := by
  unfold text_stopped_next.f nx
  by_cases h1 : l.length = 1
  · obtain ⟨s, rfl⟩ := List.length_eq_one_iff.mp h1
    have hs := h s (by simp)
    simp only [List.length_singleton, Int.natCast_one, if_true, show (0 : Int) < 1 by omega, rd, Int.toNat_zero, List.getD_cons_zero, show ¬ s = 0 by omega, if_false]
    have e : Int.tmod c s = c % s := Int.tmod_eq_emod_of_nonneg hc
    have := Int.emod_nonneg c (b := s) (by omega)
    have := Int.emod_lt_of_pos c (b := s) (by omega)
    rw [e, w64 (c + s) (by omega) (by omega), w64 _ (by omega) (by omega)]
    exact Ev.now _
  · simp only [show ¬ (l.length : Int) = 1 by omega, h1, if_false]
    exact tnext_l0 c l hc hc' hl l.length 0 (by omega)

theorem rnext_l0 (c : Int) (l : List Int) (hl : l.length ≤ 1099511627776) : ∀ (n i : Nat), i + n = l.length →
    Ev (fun k => tinselref15_next.l0 k c l (l.length : Int) (i : Int)) (if (nf (l.drop i) c).2 = true then nf (l.drop i) c else (0, false))
  | 0, i, h => by
    refine Ev.step (fun k => by rw [tinselref15_next.l0]) ?_
    rw [List.drop_eq_nil_of_le (by omega), nf_nil]
    simp only [show ¬ (i : Int) < l.length by omega, if_false]
    exact Ev.now _
  | n + 1, i, h => by
    refine Ev.step (fun k => by rw [tinselref15_next.l0]) ?_
    rw [drop_rd l i (by omega), nf_cons]
    simp only [show (i : Int) < l.length by omega, if_true, show (0 : Int) ≤ i by omega, gt_iff_lt, w64s i (by omega)]
    split
    · exact Ev.now _
    · exact rnext_l0 c l hl n (i + 1) (by omega)
theorem rnext_every (c s : Int) (l : List Int) (hs : 1 ≤ s) (hs' : s ≤ 1000) (hc : 0 ≤ c) (hc' : c ≤ 1099511627776) :
    Ev (fun k => tinselref15_next.j1 k c l s) (c + s - c % s, true) := by
  refine Ev.step (fun k => by rw [tinselref15_next.j1]) ?_
  simp only [gt_iff_lt, show 0 < s by omega, if_true, show ¬ s = 0 by omega, if_false]
  have e : Int.tdiv c s = c / s := Int.tdiv_eq_ediv_of_nonneg hc
  have := Int.emod_nonneg c (b := s) (by omega)
  have := Int.emod_lt_of_pos c (b := s) (by omega)
  have d := Int.emod_add_mul_ediv c s
  have q0 : 0 ≤ c / s := Int.ediv_nonneg hc (by omega)
  have q1 : c / s ≤ c := Int.ediv_le_self _ hc
  have e2 : (c / s + 1) * s = c + s - c % s := by
    rw [Int.add_mul, Int.one_mul, Int.mul_comm]; omega
  rw [e, w64 (c / s) (by omega) (by omega), w64 (c / s + 1) (by omega) (by omega), e2, w64 _ (by omega) (by omega)]
  exact Ev.now _
theorem rnext (c : Int) (l : List Int) (h : OkS l) (hc : 0 ≤ c) (hc' : c ≤ 1099511627776) (hl : l.length ≤ 1099511627776) :
    Ev (fun k => tinselref15_next.f k c l) (if (nx (st l) c).2 = true then nx (st l) c else (0, false)) := by
  unfold tinselref15_next.f st
  by_cases h0 : l.length = 0
  · simp only [h0, Int.natCast_zero, if_true]
    refine Ev.step (fun k => by rw [tinselref15_next.j0]) ?_
    simp only [h0, Int.natCast_zero, show ¬ (0 : Int) = 1 by omega, if_false]
    exact rnext_every c 8 l (by omega) (by omega) hc hc'
  · simp only [show ¬ (l.length : Int) = 0 by omega, h0, if_false]
    refine Ev.step (fun k => by rw [tinselref15_next.j0]) ?_
    by_cases h1 : l.length = 1
    · obtain ⟨s, rfl⟩ := List.length_eq_one_iff.mp h1
      have hs := h s (by simp)
      simp only [List.length_singleton, Int.natCast_one, if_true, show (0 : Int) < 1 by omega]
      exact rnext_every c s [s] hs.1 hs.2 hc hc'
    · simp only [show ¬ (l.length : Int) = 1 by omega, if_false]
      refine Ev.step (fun k => by rw [tinselref15_next.j1]) ?_
      simp only [gt_iff_lt, Int.lt_irrefl, if_false]
      have := rnext_l0 c l hl l.length 0 (by omega)
      unfold nx
      simp only [h1, if_false]
      exact this
theorem rtab (c : Int) (l : List Int) (h : OkS l) (hc : 0 ≤ c) (hc' : c ≤ 1099511627776) (hl : l.length ≤ 1099511627776) :
    Ev (fun k => tinselref15_tab.f k c l) (nx (st l) c).1 := by
  unfold tinselref15_tab.f
  refine Ev.bind (rnext c l h hc hc' hl) ?_
  by_cases hb : (nx (st l) c).2 = true
  · simp only [hb, if_true]
    exact Ev.now _
  · simp only [hb, if_false]
    have e : (nx (st l) c).1 = c + 1 := by
      revert hb
      unfold nx
      split
      · simp
      · unfold nf
        split <;> simp
    rw [e, w64 (c + 1) (by omega) (by omega)]
    exact Ev.now _
theorem st_ok (l : List Int) (h : OkS l) : OkS (st l) := by
  unfold st
  split
  · intro s hs
    simp at hs
    omega
  · exact h
theorem st_len (l : List Int) (hl : l.length ≤ 1099511627776) : (st l).length ≤ 1099511627776 := by
  unfold st
  split
  · simp
  · exact hl
/-- What a byte other than a tab does to a column (neither a line's end). -/
def col (c b : Int) : Int := if b = 8 then (if c > 0 then c - 1 else 0) else if b = 13 then 0 else c + 1
theorem col_in (c b : Int) (hc : 0 ≤ c) : 0 ≤ col c b ∧ col c b ≤ c + 1 := by
  unfold col; (repeat' split) <;> omega
theorem rcolumn (c b : Int) (hb : b ≠ 9) (hc : 0 ≤ c) (hc' : c ≤ 1099511627776) : tinselref15_column.f c b = some (col c b) := by
  unfold tinselref15_column.f col
  simp only [hb, if_false]
  split
  · split
    · rw [w64 _ (by omega) (by omega)]
    · rfl
  · split
    · rfl
    · rw [w64 _ (by omega) (by omega)]
theorem tstep (c b : Int) (hb : b ≠ 9) (hc : 0 ≤ c) (hc' : c ≤ 1099511627776) : text_step.f c b = some (if b = 10 then 0 else col c b) := by
  unfold text_step.f text_wide.f col
  by_cases h10 : b = 10
  · simp [h10]
  · simp only [hb, h10, if_false]
    by_cases h8 : b = 8
    · subst h8
      simp only [show ¬ (8 : Int) = 9 by omega, show ¬ (8 : Int) = 10 by omega, if_true, if_false, Option.bind_some]
      rw [w64 _ (by omega) (by omega)]
      unfold mx
      congr 1
      split <;> split <;> omega
    · by_cases h13 : b = 13
      · simp [h13]
      · simp only [h8, h13, if_false, Option.bind_some]
        rw [w64 _ (by omega) (by omega)]
theorem rstep (c b : Int) (l : List Int) (h : OkS l) (hc : 0 ≤ c) (hc' : c ≤ 1099511627776) (hl : l.length ≤ 1099511627776) :
    Ev (fun k => tinselref15_step.f k c b l) (if b = 9 then (nx (st l) c).1 else col c b) := by
  unfold tinselref15_step.f
  by_cases hb : b = 9
  · simp only [hb, if_true]
    exact Ev.bind (rtab c l h hc hc' hl) (Ev.now _)
  · simp only [hb, if_false, rcolumn c b hb hc hc', Option.bind_some]
    exact Ev.now _
theorem rblanks_l0 (m : Nat) (hm : m ≤ 1099511627776) : ∀ (n i : Nat), i + n = m → Ev (fun k => tinselref15_blanks.l0 k (m : Int) (List.replicate i 32) (i : Int)) (List.replicate m 32)
  | 0, i, h => by
    refine Ev.step (fun k => by rw [tinselref15_blanks.l0]) ?_
    obtain rfl : i = m := by omega
    simp only [Int.lt_irrefl, if_false]
    exact Ev.now _
  | n + 1, i, h => by
    refine Ev.step (fun k => by rw [tinselref15_blanks.l0]) ?_
    simp only [show (i : Int) < m by omega, if_true, List.length_replicate, show i < 140737488355328 by omega, w64s i (by omega), ← List.replicate_succ']
    exact rblanks_l0 m hm n (i + 1) (by omega)
theorem rblanks (a : Int) (h0 : 0 ≤ a) (h1 : a ≤ 1099511627776) : Ev (fun k => tinselref15_blanks.f k a) (List.replicate a.toNat 32) := by
  obtain ⟨m, rfl⟩ := Int.eq_ofNat_of_zero_le h0
  exact rblanks_l0 m (by omega) m 0 (by omega)
theorem tspaces (a : Int) (h0 : 0 ≤ a) (h1 : a ≤ 1099511627776) : text_spaces.f a = some (List.replicate a.toNat 32) := by
  unfold text_spaces.f
  simp only [show -9223372036854775808 ≤ a by omega, show a.toNat < 140737488355328 by omega, if_true]

/-- A run of blanks: both sides put out the same. -/
theorem runs (l : List Int) (h : OkS l) (hl : l.length ≤ 1099511627776) (b : Int) (hb : b ≤ 1099511627776) : ∀ (n : Nat) (a : Int) (out : List Int), 0 ≤ a → a ≤ b → (b - a).toNat ≤ n → out.length + n ≤ 1099511627776 →
    ∃ y, y.length ≤ n ∧ Ev (fun k => text_stopped_run.l0 k (st l) a b out) (out ++ y) ∧ Ev (fun k => tinselref15_run.l0 k a b l out) (out ++ y) := by
  intro n
  induction n using Nat.strongRecOn with
  | ind n ih =>
  intro a out ha hab hn ho
  have N := nx_in (st l) a (st_ok l h) ha
  by_cases h2 : (nx (st l) a).2 = true ∧ (nx (st l) a).1 ≤ b
  · obtain ⟨y, hy, t, r⟩ := ih (n - 1) (by omega) (nx (st l) a).1 (out ++ [9]) (by omega) h2.2 (by omega) (by simp; omega)
    refine ⟨9 :: y, by simp; omega, ?_, ?_⟩
    · refine Ev.step (fun k => by rw [text_stopped_run.l0]) ?_
      refine Ev.bind (tnext a (st l) (st_ok l h) ha (by omega) (st_len l hl)) ?_
      simp only [h2.1, if_true, gt_iff_lt, show ¬ b < (nx (st l) a).1 by omega, if_false, show out.length < 140737488355328 by omega]
      simpa using t
    · refine Ev.step (fun k => by rw [tinselref15_run.l0]) ?_
      refine Ev.bind (rnext a l h ha (by omega) hl) ?_
      simp only [h2.1, if_true, gt_iff_lt, show ¬ b < (nx (st l) a).1 by omega, if_false, show out.length < 140737488355328 by omega]
      simpa using r
  · have hs := tspaces (b - a) (by omega) (by omega)
    have hr := rblanks (b - a) (by omega) (by omega)
    refine ⟨List.replicate (b - a).toNat 32, by simpa using hn, ?_, ?_⟩
    · refine Ev.step (fun k => by rw [text_stopped_run.l0]) ?_
      refine Ev.bind (tnext a (st l) (st_ok l h) ha (by omega) (st_len l hl)) ?_
      by_cases hk : (nx (st l) a).2 = true
      · simp only [hk, if_true, gt_iff_lt, show b < (nx (st l) a).1 by simp only [hk, true_and] at h2; omega]
        simp only [w64 (b - a) (by omega) (by omega), hs, Option.bind_some, List.length_replicate, show out.length + (b - a).toNat < 140737488355328 by omega, if_true]
        exact Ev.now _
      · simp only [hk, if_false]
        simp only [w64 (b - a) (by omega) (by omega), hs, Option.bind_some, List.length_replicate, show out.length + (b - a).toNat < 140737488355328 by omega, if_true]
        exact Ev.now _
    · refine Ev.step (fun k => by rw [tinselref15_run.l0]) ?_
      refine Ev.bind (rnext a l h ha (by omega) hl) ?_
      by_cases hk : (nx (st l) a).2 = true
      · simp only [hk, if_true, gt_iff_lt, show b < (nx (st l) a).1 by simp only [hk, true_and] at h2; omega, w64 (b - a) (by omega) (by omega)]
        refine Ev.bind hr ?_
        simp only [List.length_replicate, show out.length + (b - a).toNat < 140737488355328 by omega, if_true]
        exact Ev.now _
      · simp only [hk, if_false, w64 (b - a) (by omega) (by omega)]
        refine Ev.bind hr ?_
        simp only [List.length_replicate, show out.length + (b - a).toNat < 140737488355328 by omega, if_true]
        exact Ev.now _

/-- Expand: both sides answer alike. -/
theorem expands (l : List Int) (h : OkS l) (hl : l.length ≤ 1099511627776) (x : List Int) (hx : x.length ≤ 1048576) : ∀ (n i : Nat) (out : List Int) (c : Int), i + n = x.length → 0 ≤ c → c ≤ 1000 * i → out.length ≤ 1000 * i →
    ∃ y, Ev (fun k => text_Expand.l0 k (st l) out c x (x.length : Int) (i : Int)) (y, 0) ∧ Ev (fun k => tinselref15_Expand.l0 k l out c x (x.length : Int) (i : Int)) (y, 0)
  | 0, i, out, c, hi, hc, hc', ho => by
    refine ⟨out, ?_, ?_⟩
    · refine Ev.step (fun k => by rw [text_Expand.l0]) ?_
      simp only [show ¬ (i : Int) < x.length by omega, if_false]
      exact Ev.now _
    · refine Ev.step (fun k => by rw [tinselref15_Expand.l0]) ?_
      simp only [show ¬ (i : Int) < x.length by omega, if_false]
      exact Ev.now _
  | n + 1, i, out, c, hi, hc, hc', ho => by
    have N := nx_in (st l) c (st_ok l h) hc
    by_cases h9 : rd x (i : Int) = 9
    · obtain ⟨y, t, r⟩ := expands l h hl x hx n (i + 1) (out ++ List.replicate ((nx (st l) c).1 - c).toNat 32) (nx (st l) c).1 (by omega) (by omega) (by omega) (by simp; omega)
      refine ⟨y, ?_, ?_⟩
      · refine Ev.step (fun k => by rw [text_Expand.l0]) ?_
        simp only [show (i : Int) < x.length by omega, if_true, show (0 : Int) ≤ i by omega, h9, w64s i (by omega)]
        refine Ev.bind (tnext c (st l) (st_ok l h) hc (by omega) (st_len l hl)) ?_
        simp only [w64 ((nx (st l) c).1 - c) (by omega) (by omega), tspaces ((nx (st l) c).1 - c) (by omega) (by omega), Option.bind_some, List.length_replicate, show out.length + ((nx (st l) c).1 - c).toNat < 140737488355328 by omega, if_true]
        exact t
      · refine Ev.step (fun k => by rw [tinselref15_Expand.l0]) ?_
        simp only [show (i : Int) < x.length by omega, if_true, show (0 : Int) ≤ i by omega, w64s i (by omega)]
        refine Ev.bind (rstep c (rd x i) l h hc (by omega) hl) ?_
        simp only [h9, if_true, w64 ((nx (st l) c).1 - c) (by omega) (by omega)]
        refine Ev.bind (rblanks ((nx (st l) c).1 - c) (by omega) (by omega)) ?_
        simp only [List.length_replicate, show out.length + ((nx (st l) c).1 - c).toNat < 140737488355328 by omega, if_true]
        exact r
    · have C := col_in c (rd x i) hc
      obtain ⟨y, t, r⟩ := expands l h hl x hx n (i + 1) (out ++ [rd x i]) (if rd x i = 10 then 0 else col c (rd x i)) (by omega) (by split <;> omega) (by split <;> omega) (by simp; omega)
      refine ⟨y, ?_, ?_⟩
      · refine Ev.step (fun k => by rw [text_Expand.l0]) ?_
        simp only [show (i : Int) < x.length by omega, if_true, show (0 : Int) ≤ i by omega, h9, if_false, w64s i (by omega), show out.length < 140737488355328 by omega, tstep c (rd x i) h9 hc (by omega), Option.bind_some]
        exact t
      · refine Ev.step (fun k => by rw [tinselref15_Expand.l0]) ?_
        simp only [show (i : Int) < x.length by omega, if_true, show (0 : Int) ≤ i by omega, w64s i (by omega)]
        refine Ev.bind (rstep c (rd x i) l h hc (by omega) hl) ?_
        simp only [h9, if_false, show out.length < 140737488355328 by omega, if_true]
        by_cases h10 : rd x (i : Int) = 10
        · simp only [h10, if_true] at r ⊢
          exact r
        · simp only [h10, if_false] at r ⊢
          exact r
end Go.Proofs.Ytkfpghggejikiaa.Pure
