/- The law PathRelates, the plain part: Rel and Within answer as the document's. Conditions: the paths are at most 2^20 bytes. -/
import Derived.Test.YtajafgcndalieaaDoorPl3
import Derived.Test.YtajafgcndalieaaDoorPe
import Derived.Test.YtajafgcndalieaaDoorPx12
namespace Go.Proofs.YtajafgcndalieaaDoor.Pure
set_option linter.unusedSimpArgs false
set_option linter.unusedVariables false
open Go.RowKit Go.Proofs.YtajafgcndalieaaDoor.P Go.Proofs.YtajafgcndalieaaDoorW.PrintWords Go.Proofs.YtajafgcndalieaaDoorW.PrintLast Go.Proofs.YtajafgcndalieaaDoorW.PrintMore
/-- two lists without what both begin with -/
def strip : List ByteArray → List ByteArray → List ByteArray × List ByteArray
  | x :: a, y :: b => if x.toList = y.toList then strip a b else (x :: a, y :: b)
  | [], b => ([], b)
  | a, [] => (a, [])
def dd : ByteArray := ⟨#[46, 46]⟩
/-- the way from one list of names to another -/
def wayB (a b : List ByteArray) : ByteArray × Bool :=
  if a.any (fun n => decide (n.toList = [46, 46])) = true then (mk [], false) else (strB false (a.map (fun _ => dd) ++ b) false, true)
theorem wt_dd (l : List ByteArray) : wt (l.map fun _ => dd) = 3 * l.length := by
  induction l with
  | nil => rfl
  | cons x l ih => rw [List.map_cons, wt_cons, ih, List.length_cons, show dd.size = 2 from rfl]; omega
theorem strip_wt : ∀ a b : List ByteArray, wt (strip a b).1 ≤ wt a ∧ wt (strip a b).2 ≤ wt b
  | [], b => by simp [strip]
  | x :: a, [] => by simp [strip]
  | x :: a, y :: b => by
    have := strip_wt a b
    unfold strip
    split
    · simp only [wt_cons]; omega
    · exact ⟨Nat.le_refl _, Nat.le_refl _⟩
theorem pway (a b : List ByteArray) (ha : wt a ≤ 1099511627) (hb : wt b ≤ 1099511627) : ∀ (n i : Nat), i + n = a.length → (∀ x ∈ a.take i, ¬ x.toList = [46, 46]) →
    Ev (fun k => path_Rel.l1 k b ((a.take i).map fun _ => dd) a (a.length : Int) (i : Int)) (wayB a b)
  | 0, i, hi, hp => by
    refine Ev.step (fun k => by rw [path_Rel.l1]) ?_
    obtain rfl : i = a.length := by omega
    rw [List.take_length] at hp ⊢
    have h1 := len_wt a
    have h2 := len_wt b
    have h3 := wt_dd a
    have hw : wayB a b = (strB false (a.map (fun _ => dd) ++ b) false, true) := by
      unfold wayB
      rw [if_neg]
      simp only [List.any_eq_true, decide_eq_true_eq, not_exists, not_and]
      exact hp
    rw [hw]
    simp only [show ¬ (a.length : Int) < a.length by omega, if_false, List.length_map, show a.length + b.length < 8796093022208 by omega, if_true, path_joined.f]
    exact Ev.bind (Ev.bind (pstring false _ false (by rw [wt_app]; omega)) (Ev.now _)) (Ev.now _)
  | n + 1, i, hi, hp => by
    refine Ev.step (fun k => by rw [path_Rel.l1]) ?_
    have hlt : i < a.length := by omega
    have h1 := len_wt a
    simp only [show (i : Int) < a.length by omega, if_true, show (0 : Int) ≤ i by omega, w64s i (by omega), rdOf_at a i hlt]
    by_cases h : a[i].toList = [46, 46]
    · have hw : wayB a b = (mk [], false) := by
        unfold wayB
        rw [if_pos]
        simp only [List.any_eq_true, decide_eq_true_eq]
        exact ⟨_, List.getElem_mem hlt, h⟩
      rw [hw]
      simp only [h, if_true]
      exact Ev.now _
    · have ih := pway a b ha hb n (i + 1) (by omega) (by
        rw [List.take_succ_eq_append_getElem hlt]
        intro x hx
        rcases List.mem_append.mp hx with hx | hx
        · exact hp x hx
        · rw [List.mem_singleton.mp hx]; exact h)
      rw [List.take_succ_eq_append_getElem hlt, List.map_append] at ih
      simp only [h, if_false, List.length_map, List.length_take, show min i a.length < 8796093022208 by omega, if_true]
      exact ih
theorem rway (a b : List ByteArray) (ha : wt a ≤ 1099511627) (hb : wt b ≤ 1099511627) : ∀ (n i : Nat), i + n = a.length → (∀ x ∈ a.take i, ¬ x.toList = [46, 46]) →
    Ev (fun k => tinselref03_Rel.l1 k b ((a.take i).map fun _ => dd) a (a.length : Int) (i : Int)) (wayB a b)
  | 0, i, hi, hp => by
    refine Ev.step (fun k => by rw [tinselref03_Rel.l1]) ?_
    obtain rfl : i = a.length := by omega
    rw [List.take_length] at hp ⊢
    have h1 := len_wt a
    have h2 := len_wt b
    have h3 := wt_dd a
    have hw : wayB a b = (strB false (a.map (fun _ => dd) ++ b) false, true) := by
      unfold wayB
      rw [if_neg]
      simp only [List.any_eq_true, decide_eq_true_eq, not_exists, not_and]
      exact hp
    rw [hw]
    simp only [show ¬ (a.length : Int) < a.length by omega, if_false, List.length_map, show a.length + b.length < 8796093022208 by omega, if_true, Option.bind_some, len_nil]
    obtain ⟨z, hz⟩ : ∃ z, a.map (fun _ => dd) ++ b = z := ⟨_, rfl⟩
    have hzw : wt z ≤ 1099511627776 := by rw [← hz, wt_app]; omega
    rw [hz]
    by_cases hn : z = []
    · simp only [hn, if_true, strB, true_and]
      exact Ev.now _
    · simp only [hn, if_false, strB, false_and, Bool.false_eq_true, List.nil_append, List.append_nil]
      exact Ev.bind (joined z hzw) (Ev.now _)
  | n + 1, i, hi, hp => by
    refine Ev.step (fun k => by rw [tinselref03_Rel.l1]) ?_
    have hlt : i < a.length := by omega
    have h1 := len_wt a
    simp only [show (i : Int) < a.length by omega, if_true, show (0 : Int) ≤ i by omega, w64s i (by omega), rdOf_at a i hlt]
    by_cases h : a[i].toList = [46, 46]
    · have hw : wayB a b = (mk [], false) := by
        unfold wayB
        rw [if_pos]
        simp only [List.any_eq_true, decide_eq_true_eq]
        exact ⟨_, List.getElem_mem hlt, h⟩
      rw [hw]
      simp only [h, if_true]
      exact Ev.now _
    · have ih := rway a b ha hb n (i + 1) (by omega) (by
        rw [List.take_succ_eq_append_getElem hlt]
        intro x hx
        rcases List.mem_append.mp hx with hx | hx
        · exact hp x hx
        · rw [List.mem_singleton.mp hx]; exact h)
      rw [List.take_succ_eq_append_getElem hlt, List.map_append] at ih
      simp only [h, if_false, List.length_map, List.length_take, show min i a.length < 8796093022208 by omega, if_true]
      exact ih
theorem pj1 (a b : List ByteArray) (ha : wt a ≤ 1099511627) (hb : wt b ≤ 1099511627) : Ev (fun k => path_Rel.j1 k a b) (wayB a b) :=
  Ev.step (fun k => by rw [path_Rel.j1]; rfl) (pway a b ha hb a.length 0 (by omega) (by simp))
theorem rj1 (a b : List ByteArray) (ha : wt a ≤ 1099511627) (hb : wt b ≤ 1099511627) : Ev (fun k => tinselref03_Rel.j1 k a b) (wayB a b) :=
  Ev.step (fun k => by rw [tinselref03_Rel.j1]; rfl) (rway a b ha hb a.length 0 (by omega) (by simp))
theorem rd0 (x : ByteArray) (a : List ByteArray) : rdOf ByteArray.empty (x :: a) 0 = x := rfl
theorem pstrip : ∀ (a b : List ByteArray), wt a ≤ 1099511627 → wt b ≤ 1099511627 → Ev (fun k => path_Rel.l0 k a b) (wayB (strip a b).1 (strip a b).2)
  | [], b, ha, hb => by
    refine Ev.step (fun k => by rw [path_Rel.l0]) ?_
    simp only [List.length_nil, Int.natCast_zero, gt_iff_lt, show ¬ (0 : Int) < 0 by omega, if_false, strip]
    exact pj1 [] b ha hb
  | x :: a, [], ha, hb => by
    refine Ev.step (fun k => by rw [path_Rel.l0]) ?_
    simp only [List.length_nil, List.length_cons, Int.natCast_zero, gt_iff_lt, show (0 : Int) < ((a.length + 1 : Nat) : Int) by omega, show ¬ (0 : Int) < 0 by omega, if_true, if_false, strip]
    exact pj1 (x :: a) [] ha hb
  | x :: a, y :: b, ha, hb => by
    refine Ev.step (fun k => by rw [path_Rel.l0]) ?_
    simp only [List.length_cons, gt_iff_lt, show (0 : Int) < ((a.length + 1 : Nat) : Int) by omega, show (0 : Int) < ((b.length + 1 : Nat) : Int) by omega, show (1 : Int) ≤ ((a.length + 1 : Nat) : Int) by omega, show (1 : Int) ≤ ((b.length + 1 : Nat) : Int) by omega, if_true, rd0, strip]
    by_cases h : x.toList = y.toList
    · simp only [if_pos h]
      exact pstrip a b (by rw [wt_cons] at ha; omega) (by rw [wt_cons] at hb; omega)
    · simp only [if_neg h]
      exact pj1 (x :: a) (y :: b) ha hb
theorem rstrip : ∀ (a b : List ByteArray), wt a ≤ 1099511627 → wt b ≤ 1099511627 → Ev (fun k => tinselref03_Rel.l0 k a b) (wayB (strip a b).1 (strip a b).2)
  | [], b, ha, hb => by
    refine Ev.step (fun k => by rw [tinselref03_Rel.l0]) ?_
    simp only [List.length_nil, Int.natCast_zero, gt_iff_lt, show ¬ (0 : Int) < 0 by omega, if_false, strip]
    exact rj1 [] b ha hb
  | x :: a, [], ha, hb => by
    refine Ev.step (fun k => by rw [tinselref03_Rel.l0]) ?_
    simp only [List.length_nil, List.length_cons, Int.natCast_zero, gt_iff_lt, show (0 : Int) < ((a.length + 1 : Nat) : Int) by omega, show ¬ (0 : Int) < 0 by omega, if_true, if_false, strip]
    exact rj1 (x :: a) [] ha hb
  | x :: a, y :: b, ha, hb => by
    refine Ev.step (fun k => by rw [tinselref03_Rel.l0]) ?_
    simp only [List.length_cons, gt_iff_lt, show (0 : Int) < ((a.length + 1 : Nat) : Int) by omega, show (0 : Int) < ((b.length + 1 : Nat) : Int) by omega, show (1 : Int) ≤ ((a.length + 1 : Nat) : Int) by omega, show (1 : Int) ≤ ((b.length + 1 : Nat) : Int) by omega, if_true, rd0, strip]
    by_cases h : x.toList = y.toList
    · simp only [if_pos h]
      exact rstrip a b (by rw [wt_cons] at ha; omega) (by rw [wt_cons] at hb; omega)
    · simp only [if_neg h]
      exact rj1 (x :: a) (y :: b) ha hb
def left (s : ByteArray) : List ByteArray := cnames (absB s) (namesB s)
def relB (a b : ByteArray) : ByteArray × Bool := if absB a = absB b then wayB (strip (left a) (left b)).1 (strip (left a) (left b)).2 else (mk [], false)
theorem pRel (a b : ByteArray) (ha : a.size ≤ 1048576) (hb : b.size ≤ 1048576) : Ev (fun k => path_Rel.f k a b) (relB a b) := by
  have h1 := cn_wt a (absB a)
  have h2 := cn_wt b (absB b)
  unfold path_Rel.f relB
  simp only [pclean a ha, pclean b hb, Option.bind_some]
  by_cases h : absB a = absB b
  · simp only [h, bne_self_eq_false, Bool.false_eq_true, if_false, if_true]
    have := pstrip (left a) (left b) (by unfold left; omega) (by unfold left; omega)
    simpa [left, h] using this
  · simp only [bne_iff_ne, ne_eq, h, not_false_eq_true, if_true, if_false]
    exact Ev.now _
theorem rRel (a b : ByteArray) (ha : a.size ≤ 1048576) (hb : b.size ≤ 1048576) : Ev (fun k => tinselref03_Rel.f k a b) (relB a b) := by
  have h1 := cn_wt a (absB a)
  have h2 := cn_wt b (absB b)
  have h3 := names_wt a
  have h4 := names_wt b
  have h5 := len_wt (namesB a)
  have h6 := len_wt (namesB b)
  unfold tinselref03_Rel.f relB
  simp only [abs_ref, Option.bind_some]
  by_cases h : absB a = absB b
  · simp only [h, bne_self_eq_false, Bool.false_eq_true, if_false, if_true]
    refine Ev.bind (names a ha) (Ev.bind (cleans _ _ (by omega)) (Ev.bind (names b hb) (Ev.bind (cleans _ _ (by omega)) ?_)))
    have := rstrip (left a) (left b) (by unfold left; omega) (by unfold left; omega)
    simpa [left, h] using this
  · simp only [bne_iff_ne, ne_eq, h, not_false_eq_true, if_true, if_false]
    exact Ev.now _

/-- does one list begin as the other? -/
def heads : List ByteArray → List ByteArray → Bool
  | [], _ => true
  | _ :: _, [] => false
  | x :: a, y :: b => if x.toList = y.toList then heads a b else false
theorem heads_at (a b : List ByteArray) (i : Nat) (ha : i < a.length) (hb : i < b.length) : heads (a.drop i) (b.drop i) = if a[i].toList = b[i].toList then heads (a.drop (i + 1)) (b.drop (i + 1)) else false := by
  rw [List.drop_eq_getElem_cons ha, List.drop_eq_getElem_cons hb, heads]
/-- the answer for names that are told: is the way down? -/
def inB (abs : Bool) (d l : List ByteArray) : Bool := if l.length < d.length then false else if heads d l = true then (decide (d ≠ []) || abs || decide (l = []) || ((rdOf ByteArray.empty l 0).toList != [46, 46])) else false
theorem pin_l0 (abs : Bool) (d l : List ByteArray) (hl : d.length ≤ l.length) (hd : d.length ≤ 1099511627776) : ∀ (n i : Nat), i + n = d.length →
    Ev (fun k => path_Within.l0 k abs d l (d.length : Int) (i : Int)) (if heads (d.drop i) (l.drop i) = true then (decide (d ≠ []) || abs || decide (l = []) || ((rdOf ByteArray.empty l 0).toList != [46, 46])) else false)
  | 0, i, hi => by
    refine Ev.step (fun k => by rw [path_Within.l0]) ?_
    rw [List.drop_eq_nil_of_le (by omega : d.length ≤ i)]
    simp only [show ¬ (i : Int) < d.length by omega, if_false, heads, if_true, len_pos, len_nil]
    by_cases h1 : d = []
    · simp only [h1, ne_eq, not_true_eq_false, decide_false, Bool.false_or, if_false]
      cases abs
      · simp only [Bool.false_eq_true, if_false, Bool.false_or]
        by_cases h2 : l = []
        · simp only [h2, if_true, decide_true, Bool.true_or]
          exact Ev.now _
        · have := List.length_pos_iff.mpr h2
          simp only [h2, if_false, decide_false, Bool.false_or, show (0 : Int) < (l.length : Int) by omega, if_true]
          exact Ev.now _
      · simp only [if_true, Bool.true_or]
        exact Ev.now _
    · simp only [h1, ne_eq, not_false_eq_true, decide_true, Bool.true_or, if_true]
      exact Ev.now _
  | n + 1, i, hi => by
    refine Ev.step (fun k => by rw [path_Within.l0]) ?_
    have ha : i < d.length := by omega
    have hb : i < l.length := by omega
    have ih := pin_l0 abs d l hl hd n (i + 1) (by omega)
    rw [heads_at d l i ha hb]
    simp only [show (i : Int) < d.length by omega, show (i : Int) < l.length by omega, if_true, show (0 : Int) ≤ i by omega, w64s i (by omega), rdOf_at d i ha, rdOf_at l i hb]
    by_cases h : d[i].toList = l[i].toList
    · simp only [if_pos h]
      exact ih
    · simp only [if_neg h, Bool.false_eq_true, if_false]
      exact Ev.now _
theorem rin_l0 (d l : List ByteArray) (hl : d.length ≤ l.length) (hd : d.length ≤ 1099511627776) : ∀ (n i : Nat), i + n = d.length →
    Ev (fun k => tinselref03_Within.l0 k d l (d.length : Int) (i : Int)) (heads (d.drop i) (l.drop i))
  | 0, i, hi => by
    refine Ev.step (fun k => by rw [tinselref03_Within.l0]) ?_
    rw [List.drop_eq_nil_of_le (by omega : d.length ≤ i)]
    simp only [show ¬ (i : Int) < d.length by omega, if_false, heads]
    exact Ev.now _
  | n + 1, i, hi => by
    refine Ev.step (fun k => by rw [tinselref03_Within.l0]) ?_
    have ha : i < d.length := by omega
    have hb : i < l.length := by omega
    have ih := rin_l0 d l hl hd n (i + 1) (by omega)
    rw [heads_at d l i ha hb]
    simp only [show (i : Int) < d.length by omega, show (i : Int) < l.length by omega, if_true, show (0 : Int) ≤ i by omega, w64s i (by omega), rdOf_at d i ha, rdOf_at l i hb]
    by_cases h : d[i].toList = l[i].toList
    · simp only [if_pos h]
      exact ih
    · simp only [if_neg h]
      exact Ev.now _
theorem cstep_no (out : List ByteArray) (n : ByteArray) (h : ∀ x ∈ out, ¬ x.toList = [46, 46]) : ∀ x ∈ cstep true out n, ¬ x.toList = [46, 46] := by
  intro x hx
  unfold cstep at hx
  split at hx
  · exact h x hx
  · split at hx
    · rename_i hn
      rcases List.mem_append.mp hx with hx | hx
      · exact h x hx
      · rw [List.mem_singleton.mp hx]; exact hn
    · split at hx
      · exact h x ((List.dropLast_sublist out).subset hx)
      · rw [if_pos rfl] at hx
        exact h x hx
theorem cnames_no (l : List ByteArray) : ∀ x ∈ cnames true l, ¬ x.toList = [46, 46] := by
  unfold cnames
  suffices hh : ∀ (l out : List ByteArray), (∀ x ∈ out, ¬ x.toList = [46, 46]) → ∀ x ∈ l.foldl (cstep true) out, ¬ x.toList = [46, 46] by exact hh l [] (by simp)
  intro l
  induction l with
  | nil => intro out h; exact h
  | cons n l ih => intro out h; exact ih _ (cstep_no out n h)
def withinB (a b : ByteArray) : Bool := if absB a = absB b then inB (absB b) (left a) (left b) else false
theorem pWithin (a b : ByteArray) (ha : a.size ≤ 1048576) (hb : b.size ≤ 1048576) : Ev (fun k => path_Within.f k a b) (withinB a b) := by
  have h1 := cn_wt a (absB a)
  have h2 := cn_wt b (absB b)
  have h3 := len_wt (left a)
  have h4 : wt (left a) ≤ a.size + 1 := h1
  unfold path_Within.f withinB
  simp only [pclean a ha, pclean b hb, Option.bind_some]
  by_cases h : absB a = absB b
  · simp only [h, bne_self_eq_false, Bool.false_eq_true, if_false, if_true]
    refine Ev.step (fun k => by rw [path_Within.j0.eq_2]) ?_
    have hla : cnames (absB b) (namesB a) = left a := by rw [← h]; rfl
    have hlb : cnames (absB b) (namesB b) = left b := rfl
    rw [hla, hlb]
    unfold inB
    by_cases hlen : (left b).length < (left a).length
    · simp only [show ((left b).length : Int) < ((left a).length : Int) by omega, decide_true, if_true, hlen]
      exact Ev.now _
    · simp only [show ¬ ((left b).length : Int) < ((left a).length : Int) by omega, decide_false, Bool.false_eq_true, if_false, hlen]
      have := pin_l0 (absB b) (left a) (left b) (by omega) (by omega) (left a).length 0 (by omega)
      rw [List.drop_zero, List.drop_zero] at this
      exact this
  · simp only [bne_iff_ne, ne_eq, h, not_false_eq_true, if_true, if_false]
    refine Ev.step (fun k => by rw [path_Within.j0.eq_2]) ?_
    simp only [if_true]
    exact Ev.now _
theorem rWithin (a b : ByteArray) (ha : a.size ≤ 1048576) (hb : b.size ≤ 1048576) : Ev (fun k => tinselref03_Within.f k a b) (withinB a b) := by
  have h1 := cn_wt a (absB a)
  have h3 := names_wt a
  have h4 := names_wt b
  have h5 := len_wt (namesB a)
  have h6 := len_wt (namesB b)
  have h7 := len_wt (left a)
  have h8 : wt (left a) ≤ a.size + 1 := h1
  unfold tinselref03_Within.f withinB
  simp only [abs_ref, Option.bind_some]
  by_cases h : absB a = absB b
  · simp only [h, bne_self_eq_false, Bool.false_eq_true, if_false, if_true]
    refine Ev.bind (names a ha) (Ev.bind (cleans _ _ (by omega)) (Ev.bind (names b hb) (Ev.bind (cleans _ _ (by omega)) ?_)))
    have hla : cnames (absB b) (namesB a) = left a := by rw [← h]; rfl
    have hlb : cnames (absB b) (namesB b) = left b := rfl
    rw [hla, hlb]
    unfold inB
    simp only [len_nil]
    by_cases hd : left a = []
    · simp only [hd, if_true, List.length_nil, Nat.not_lt_zero, if_false, heads, ne_eq, not_true_eq_false, decide_false, Bool.false_or]
      by_cases hl : left b = []
      · simp only [hl, if_true, decide_true, Bool.or_true, Bool.true_or]
        exact Ev.now _
      · have hp := List.length_pos_iff.mpr hl
        simp only [hl, if_false, decide_false, Bool.or_false, show (0 : Int) < ((left b).length : Int) by omega, if_true]
        have e : (absB b || (rdOf ByteArray.empty (left b) 0).toList != [46, 46]) = ((rdOf ByteArray.empty (left b) 0).toList != [46, 46]) := by
          cases hab : absB b
          · rfl
          · have hno := cnames_no (namesB b) (rdOf ByteArray.empty (left b) 0) (by
              have e0 := rdOf_at (left b) 0 hp
              have e1 : left b = cnames true (namesB b) := by unfold left; rw [hab]
              rw [show rdOf ByteArray.empty (left b) 0 = (left b)[0] from e0, ← e1]
              exact List.getElem_mem hp)
            rw [bne_iff_ne.mpr hno]
            rfl
        rw [e]
        exact Ev.now _
    · simp only [hd, if_false, ne_eq, not_false_eq_true, decide_true, Bool.true_or]
      by_cases hlen : (left b).length < (left a).length
      · simp only [show ((left b).length : Int) < ((left a).length : Int) by omega, if_true, hlen]
        exact Ev.now _
      · simp only [show ¬ ((left b).length : Int) < ((left a).length : Int) by omega, if_false, hlen]
        have := rin_l0 (left a) (left b) (by omega) (by omega) (left a).length 0 (by omega)
        rw [List.drop_zero, List.drop_zero] at this
        have e : (if heads (left a) (left b) = true then true else false) = heads (left a) (left b) := by cases heads (left a) (left b) <;> rfl
        rw [e]
        exact this
  · simp only [bne_iff_ne, ne_eq, h, not_false_eq_true, if_true, if_false]
    exact Ev.now _
theorem PathRelates (a b : ByteArray) (ha : a.size ≤ 1048576) (hb : b.size ≤ 1048576) : ∃ k, tinsellaw03_PathRelates.f k a b = some true := by
  refine Ev.rounds (g := fun k => tinsellaw03_PathRelates.f k a b) ?_
  unfold tinsellaw03_PathRelates.f
  refine Ev.bind (pRel a b ha hb) (Ev.bind (rRel a b ha hb) ?_)
  simp only [if_true, beq_self_eq_true]
  refine Ev.bind (pWithin a b ha hb) (Ev.bind (rWithin a b ha hb) ?_)
  simp only [beq_self_eq_true, if_true]
  exact Ev.bind lives (Ev.now _)
end Go.Proofs.YtajafgcndalieaaDoor.Pure
