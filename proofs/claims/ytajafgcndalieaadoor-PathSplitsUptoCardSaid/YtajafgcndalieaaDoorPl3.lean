/- The path laws, plain part 3: paths written out; Clean and Join on both sides. Conditions: the texts are at most 2^20 bytes. -/
import Derived.Test.YtajafgcndalieaaDoorPl2
import Derived.Test.YtajafgcndalieaaDoorPx10
import Derived.Test.YtajafgcndalieaaDoorPx10
namespace Go.Proofs.YtajafgcndalieaaDoor.Pure
set_option linter.unusedSimpArgs false
set_option linter.unusedVariables false
open Go.RowKit Go.Proofs.YtajafgcndalieaaDoor.P Go.Proofs.YtajafgcndalieaaDoorW.PrintWords Go.Proofs.YtajafgcndalieaaDoorW.PrintLast Go.Proofs.YtajafgcndalieaaDoorW.PrintMore

/-- names with a slash between -/
def J (l : List ByteArray) : List UInt8 := Lib.join (l.map (·.data.toList)) [47]
theorem J_nil : J [] = [] := rfl
theorem J_one (x : ByteArray) : J [x] = x.data.toList := by simp [J, Lib.join, List.intercalate]
theorem J_cons (x y : ByteArray) (l : List ByteArray) : J (x :: y :: l) = x.data.toList ++ (47 :: J (y :: l)) := by
  simp [J, Lib.join, List.intercalate, List.intersperse]
theorem J_snoc (x : ByteArray) : ∀ l : List ByteArray, l ≠ [] → J (l ++ [x]) = J l ++ (47 :: x.data.toList)
  | [], h => absurd rfl h
  | [y], _ => by rw [List.singleton_append, J_cons, J_one, J_one]
  | y :: z :: l, _ => by
    have ih := J_snoc x (z :: l) (by simp)
    rw [List.cons_append, List.cons_append, J_cons, J_cons, ← List.cons_append, ih]
    simp
theorem J_wt : ∀ l : List ByteArray, (J l).length ≤ wt l
  | [] => Nat.le_refl _
  | [x] => by rw [J_one, wt_cons, wt_nil, len_data]; omega
  | x :: y :: l => by
    have := J_wt (y :: l)
    rw [J_cons, wt_cons, List.length_append, List.length_cons, len_data]
    omega
theorem sjoin (l : List ByteArray) (h : wt l ≤ 1099511627776) : strings_Join.f l (⟨#[47]⟩ : ByteArray) = some (mk (J l)) := by
  have h1 := J_wt l
  have h2 := len_wt l
  unfold strings_Join.f
  have hb : (Lib.join (l.map (·.data.toList)) (⟨#[47]⟩ : ByteArray).data.toList).length ≤ 140737488355328 := show (J l).length ≤ _ by omega
  rw [if_pos ⟨by omega, hb⟩]
  rfl
theorem mk_cat (s : ByteArray) (l : List UInt8) : mk l ++ s = mk (l ++ s.data.toList) := by
  rw [← mk_app, mk_data]
theorem joined_l0 (l : List ByteArray) (h : wt l ≤ 1099511627776) : ∀ (n i : Nat), i + n = l.length →
    Ev (fun k => tinselref03_joined.l0 k (mk (J (l.take i))) l (l.length : Int) (i : Int)) (mk (J l))
  | 0, i, hi => by
    refine Ev.step (fun k => by rw [tinselref03_joined.l0]) ?_
    obtain rfl : i = l.length := by omega
    simp only [show ¬ (l.length : Int) < l.length by omega, if_false, List.take_length]
    exact Ev.now _
  | n + 1, i, hi => by
    refine Ev.step (fun k => by rw [tinselref03_joined.l0]) ?_
    have hlt : i < l.length := by omega
    have ih := joined_l0 l h n (i + 1) (by omega)
    have hlw := len_wt l
    have hw : wt (l.take i) + (l[i].size + 1) ≤ wt l := by
      have e : l = l.take i ++ (l[i] :: l.drop (i + 1)) := by rw [← List.drop_eq_getElem_cons hlt, List.take_append_drop]
      have := congrArg wt e
      rw [wt_app, wt_cons] at this
      omega
    have hjw := J_wt (l.take i)
    have htk : l.take (i + 1) = l.take i ++ [l[i]] := List.take_succ_eq_append_getElem hlt
    rw [htk] at ih
    simp only [show (i : Int) < l.length by omega, if_true, show (0 : Int) ≤ i by omega, w64s i (by omega), rdOf_at l i hlt, gt_iff_lt]
    by_cases h0 : i = 0
    · subst h0
      simp only [Int.natCast_zero, show ¬ (0 : Int) < 0 by omega, if_false, List.take_zero, J_nil, mk_size, List.length_nil, show 0 + l[0].size ≤ 9223372036854775807 by omega, if_true, mk_cat, List.nil_append]
      rw [List.take_zero, List.nil_append, J_one] at ih
      exact ih
    · have hne : l.take i ≠ [] := by
        intro e
        have := congrArg List.length e
        rw [List.length_take, List.length_nil] at this
        omega
      rw [J_snoc _ _ hne] at ih
      have e1 : mk (J (l.take i)) ++ (⟨#[47]⟩ : ByteArray) = mk (J (l.take i) ++ [47]) := mk_app _ [47]
      simp only [show (0 : Int) < (i : Int) by omega, if_true, mk_size, show (J (l.take i)).length + 1 ≤ 9223372036854775807 by omega, e1, List.length_append, List.length_singleton, show (J (l.take i)).length + 1 + l[i].size ≤ 9223372036854775807 by omega, mk_cat, List.append_assoc, List.singleton_append]
      exact ih
theorem joined (l : List ByteArray) (h : wt l ≤ 1099511627776) : Ev (fun k => tinselref03_joined.f k l) (mk (J l)) := by
  have := joined_l0 l h l.length 0 (by omega)
  rw [List.take_zero, J_nil] at this
  exact this

/-- a path written out -/
def strB (abs : Bool) (l : List ByteArray) (slash : Bool) : ByteArray :=
  if l = [] ∧ abs = false then mk [46] else mk ((if abs = true then [47] else []) ++ (J l ++ if slash = true ∧ l ≠ [] then [47] else []))
theorem len_nil (l : List ByteArray) : ((l.length : Int) = 0) = (l = []) := by
  apply propext
  constructor
  · intro h
    exact List.length_eq_zero_iff.mp (by omega)
  · rintro rfl
    rfl
theorem len_pos (l : List ByteArray) : ((l.length : Int) > 0) = (l ≠ []) := by
  apply propext
  have := List.length_pos_iff (l := l)
  constructor
  · intro h
    exact this.mp (by omega)
  · intro h
    have := this.mpr h
    omega
theorem s47 : (⟨#[47]⟩ : ByteArray) = mk [47] := rfl
theorem s46 : (⟨#[46]⟩ : ByteArray) = mk [46] := rfl
theorem pstring (abs : Bool) (l : List ByteArray) (slash : Bool) (h : wt l ≤ 1099511627776) : Ev (fun k => path_String.f k abs l slash) (strB abs l slash) := by
  have hj := J_wt l
  unfold path_String.f strB
  simp only [sjoin l h, Option.bind_some]
  simp only [s47, s46]
  cases abs
  · simp only [Bool.false_eq_true, if_false, and_true, List.nil_append]
    refine Ev.step (fun k => by rw [path_String.j0.eq_2]) ?_
    cases slash
    · simp only [Bool.false_eq_true, if_false, false_and, List.append_nil]
      refine Ev.step (fun k => by rw [path_String.j1.eq_2]) ?_
      simp only [Bool.false_eq_true, if_false, len_nil, s46]
      by_cases hn : l = []
      · simp only [hn, if_true]
        exact Ev.now _
      · simp only [hn, if_false]
        exact Ev.now _
    · simp only [if_true, true_and]
      refine Ev.step (fun k => by rw [path_String.j1.eq_2]) ?_
      by_cases hn : l = []
      · simp only [hn, List.length_nil, Int.natCast_zero, gt_iff_lt, show ¬ (0 : Int) < 0 by omega, decide_false, Bool.false_eq_true, if_false, if_true, s46]
        exact Ev.now _
      · simp only [len_pos, len_nil, hn, ne_eq, not_false_eq_true, decide_true, if_true, if_false, mk_size, show (J l).length + 1 ≤ 9223372036854775807 by omega, s47, mk_app]
        exact Ev.now _
  · have e : mk [47] ++ mk (J l) = mk (47 :: J l) := mk_app [47] (J l)
    simp only [if_true, mk_size, show 1 + (J l).length ≤ 9223372036854775807 by omega, e, Bool.true_eq_false, and_false, if_false, List.singleton_append]
    refine Ev.step (fun k => by rw [path_String.j0.eq_2]) ?_
    cases slash
    · simp only [Bool.false_eq_true, if_false, false_and, List.append_nil]
      refine Ev.step (fun k => by rw [path_String.j1.eq_2]) ?_
      simp only [Bool.false_eq_true, if_false, len_nil, if_true, ite_self]
      exact Ev.now _
    · simp only [if_true, true_and]
      refine Ev.step (fun k => by rw [path_String.j1.eq_2]) ?_
      by_cases hn : l = []
      · simp only [hn, List.length_nil, Int.natCast_zero, gt_iff_lt, show ¬ (0 : Int) < 0 by omega, decide_false, Bool.false_eq_true, if_false, if_true, ne_eq, not_true_eq_false, List.append_nil]
        exact Ev.now _
      · simp only [len_pos, len_nil, hn, ne_eq, not_false_eq_true, decide_true, if_true, if_false, mk_size, List.length_cons, show (J l).length + 1 + 1 ≤ 9223372036854775807 by omega, s47, mk_app, List.cons_append]
        exact Ev.now _
theorem rstring (abs : Bool) (l : List ByteArray) (slash : Bool) (h : wt l ≤ 1099511627776) : Ev (fun k => tinselref03_String.f k abs l slash) (strB abs l slash) := by
  have hj := J_wt l
  unfold tinselref03_String.f strB
  refine Ev.bind (joined l h) ?_
  have e : mk [47] ++ mk (J l) = mk (47 :: J l) := mk_app [47] (J l)
  cases abs
  · simp only [Bool.false_eq_true, if_false, and_true, List.nil_append]
    refine Ev.step (fun k => by rw [tinselref03_String.j0.eq_2]) ?_
    by_cases hn : l = []
    · simp only [len_nil, hn, if_true, List.length_nil, Int.natCast_zero]
      refine Ev.step (fun k => by rw [tinselref03_String.j1.eq_2]) ?_
      simp only [Bool.not_false, if_true, s46]
      exact Ev.now _
    · simp only [len_nil, hn, if_false]
      refine Ev.step (fun k => by rw [tinselref03_String.j1.eq_2]) ?_
      cases slash
      · simp only [Bool.false_eq_true, if_false, false_and, List.append_nil]
        exact Ev.now _
      · simp only [Bool.false_eq_true, if_false, if_true, len_pos, hn, ne_eq, not_false_eq_true, true_and, mk_size, show (J l).length + 1 ≤ 9223372036854775807 by omega, s47, mk_app]
        exact Ev.now _
  · simp only [if_true, mk_size, show 1 + (J l).length ≤ 9223372036854775807 by omega, s47, e, Bool.true_eq_false, and_false, if_false, List.singleton_append]
    refine Ev.step (fun k => by rw [tinselref03_String.j0.eq_2]) ?_
    have hh : ∀ b : Bool, b = false → Ev (fun k => tinselref03_String.j1 k (mk (47 :: J l)) b true l slash) (mk (47 :: (J l ++ if slash = true ∧ l ≠ [] then [47] else []))) := by
      rintro b rfl
      refine Ev.step (fun k => by rw [tinselref03_String.j1.eq_2]) ?_
      cases slash
      · simp only [Bool.false_eq_true, if_false, false_and, List.append_nil]
        exact Ev.now _
      · by_cases hn : l = []
        · simp only [Bool.false_eq_true, if_false, if_true, len_pos, hn, ne_eq, not_true_eq_false, and_false, List.append_nil]
          exact Ev.now _
        · simp only [Bool.false_eq_true, if_false, if_true, len_pos, hn, ne_eq, not_false_eq_true, true_and, mk_size, List.length_cons, show (J l).length + 1 + 1 ≤ 9223372036854775807 by omega, s47, mk_app, List.cons_append]
          exact Ev.now _
    by_cases hn : (l.length : Int) = 0
    · simp only [hn, if_true, Bool.not_true]
      exact hh _ rfl
    · simp only [hn, if_false]
      exact hh _ rfl
def cleanB (s : ByteArray) : ByteArray := strB (absB s) (cnames (absB s) (namesB s)) false
theorem cn_wt (s : ByteArray) (b : Bool) : wt (cnames b (namesB s)) ≤ s.size + 1 := Nat.le_trans (cnames_wt b _) (names_wt s)
theorem pClean (s : ByteArray) (hs : s.size ≤ 1048576) : Ev (fun k => path_Clean.f k s) (cleanB s) := by
  have := cn_wt s (absB s)
  unfold path_Clean.f path_joined.f
  simp only [pclean s hs, Option.bind_some]
  refine Ev.bind (Ev.bind (pstring _ _ false (by omega)) (Ev.now _)) (Ev.now _)
theorem rClean (s : ByteArray) (hs : s.size ≤ 1048576) : Ev (fun k => tinselref03_Clean.f k s) (cleanB s) := by
  have h := cn_wt s (absB s)
  have h2 := names_wt s
  have h3 := len_wt (namesB s)
  unfold tinselref03_Clean.f
  simp only [abs_ref, Option.bind_some]
  exact Ev.bind (names s hs) (Ev.bind (cleans _ _ (by omega)) (Ev.bind (rstring _ _ false (by omega)) (Ev.now _)))

/-- the texts that are not empty -/
def full (l : List ByteArray) : List ByteArray := l.filter fun x => decide (x.toList ≠ [])
theorem full_wt (l : List ByteArray) : wt (full l) ≤ wt l := by
  induction l with
  | nil => exact Nat.le_refl _
  | cons x l ih =>
    unfold full at ih ⊢
    rw [List.filter_cons, wt_cons]
    split
    · rw [wt_cons]; omega
    · omega
def joinB (l : List ByteArray) : ByteArray := if full l = [] then mk [] else cleanB (mk (J (full l)))
theorem pJoin_l0 (l : List ByteArray) (h : wt l ≤ 1048576) : ∀ (n i : Nat) (acc : List ByteArray), i + n = l.length → acc ++ full (l.drop i) = full l →
    Ev (fun k => path_Join.l0 k acc l (l.length : Int) (i : Int)) (joinB l)
  | 0, i, acc, hi, he => by
    refine Ev.step (fun k => by rw [path_Join.l0]) ?_
    rw [List.drop_eq_nil_of_le (by omega), show full [] = [] from rfl, List.append_nil] at he
    subst he
    have hw := full_wt l
    have hj := J_wt (full l)
    simp only [show ¬ (i : Int) < l.length by omega, if_false, len_nil, joinB]
    by_cases hn : full l = []
    · simp only [hn, if_true]
      exact Ev.now _
    · simp only [hn, if_false, sjoin (full l) (by omega), Option.bind_some]
      exact Ev.bind (pClean _ (by rw [mk_size]; omega)) (Ev.now _)
  | n + 1, i, acc, hi, he => by
    refine Ev.step (fun k => by rw [path_Join.l0]) ?_
    have hlt : i < l.length := by omega
    have hlw := len_wt l
    have hfl := congrArg List.length he
    have hfw := Nat.le_trans (len_wt (full l)) (full_wt l)
    rw [List.length_append] at hfl
    rw [drop_row l i hlt] at he
    obtain ⟨x, hx⟩ : ∃ x, rdOf ByteArray.empty l (i : Int) = x := ⟨_, rfl⟩
    rw [hx] at he
    simp only [show (i : Int) < l.length by omega, if_true, show (0 : Int) ≤ i by omega, w64s i (by omega), hx]
    by_cases h1 : x.toList = []
    · simp only [h1, if_true]
      refine pJoin_l0 l h n (i + 1) acc (by omega) ?_
      rw [← he]
      congr 1
      unfold full
      rw [List.filter_cons_of_neg (by simp [h1])]
    · simp only [h1, if_false, show acc.length < 8796093022208 by omega, if_true]
      refine pJoin_l0 l h n (i + 1) (acc ++ [x]) (by omega) ?_
      rw [← he, List.append_assoc]
      congr 1
      unfold full
      rw [List.filter_cons_of_pos (by simp [h1])]
      rfl
theorem pJoin (l : List ByteArray) (h : wt l ≤ 1048576) : Ev (fun k => path_Join.f k l) (joinB l) := pJoin_l0 l h l.length 0 [] (by omega) rfl
theorem ne_data (x : ByteArray) (h : x.toList ≠ []) : x.data.toList ≠ [] := by rwa [Go.ByteArray.toList_eq] at h
theorem J_ne : ∀ l : List ByteArray, (∀ x ∈ l, x.toList ≠ []) → l ≠ [] → J l ≠ []
  | [], _, h => absurd rfl h
  | [x], hx, _ => by rw [J_one]; exact ne_data x (hx x (by simp))
  | x :: y :: l, _, _ => by rw [J_cons]; simp
theorem full_ne (l : List ByteArray) : ∀ x ∈ full l, x.toList ≠ [] := fun x hx => by
  have := (List.mem_filter.mp hx).2
  simpa using this
theorem rJoin_l0 (l : List ByteArray) (h : wt l ≤ 1048576) : ∀ (n i : Nat) (acc : List ByteArray), i + n = l.length → acc ++ full (l.drop i) = full l →
    Ev (fun k => tinselref03_Join.l0 k (mk (J acc)) l (l.length : Int) (i : Int)) (joinB l)
  | 0, i, acc, hi, he => by
    refine Ev.step (fun k => by rw [tinselref03_Join.l0]) ?_
    rw [List.drop_eq_nil_of_le (by omega), show full [] = [] from rfl, List.append_nil] at he
    subst he
    have hw := full_wt l
    have hj := J_wt (full l)
    simp only [show ¬ (i : Int) < l.length by omega, if_false, mk_toList, joinB]
    by_cases hn : full l = []
    · simp only [hn, J_nil, if_true]
      exact Ev.now _
    · simp only [hn, J_ne (full l) (full_ne l) hn, if_false]
      exact Ev.bind (rClean _ (by rw [mk_size]; omega)) (Ev.now _)
  | n + 1, i, acc, hi, he => by
    refine Ev.step (fun k => by rw [tinselref03_Join.l0]) ?_
    have hlt : i < l.length := by omega
    have hlw := len_wt l
    have hfw := full_wt l
    have hacc : ∀ x ∈ acc, x.toList ≠ [] := fun x hx => full_ne l x (by rw [← he]; simp [hx])
    have hwa : wt acc + wt (full (l.drop i)) = wt (full l) := by rw [← wt_app, he]
    have hja := J_wt acc
    rw [drop_row l i hlt] at he hwa
    obtain ⟨x, hx⟩ : ∃ x, rdOf ByteArray.empty l (i : Int) = x := ⟨_, rfl⟩
    rw [hx] at he hwa
    simp only [show (i : Int) < l.length by omega, if_true, show (0 : Int) ≤ i by omega, w64s i (by omega), hx, mk_toList]
    by_cases h1 : x.toList = []
    · simp only [h1, if_true]
      refine rJoin_l0 l h n (i + 1) acc (by omega) ?_
      rw [← he]
      congr 1
      unfold full
      rw [List.filter_cons_of_neg (by simp [h1])]
    · have hf : full (x :: l.drop (i + 1)) = x :: full (l.drop (i + 1)) := by
        unfold full
        rw [List.filter_cons_of_pos (by simp [h1])]
      rw [hf] at he hwa
      rw [wt_cons] at hwa
      have ih := rJoin_l0 l h n (i + 1) (acc ++ [x]) (by omega) (by rw [← he, List.append_assoc]; rfl)
      simp only [h1, if_false]
      by_cases hn : acc = []
      · subst hn
        rw [List.nil_append, J_one] at ih
        simp only [J_nil, if_true, mk_size, List.length_nil, show 0 + x.size ≤ 9223372036854775807 by omega, mk_cat, List.nil_append]
        exact ih
      · rw [J_snoc x acc hn] at ih
        have e1 : mk (J acc) ++ (⟨#[47]⟩ : ByteArray) = mk (J acc ++ [47]) := mk_app _ [47]
        simp only [J_ne acc hacc hn, if_false, mk_size, show (J acc).length + 1 ≤ 9223372036854775807 by omega, if_true, e1, List.length_append, List.length_singleton, show (J acc).length + 1 + x.size ≤ 9223372036854775807 by omega, mk_cat, List.append_assoc, List.singleton_append]
        exact ih
theorem rJoin (l : List ByteArray) (h : wt l ≤ 1048576) : Ev (fun k => tinselref03_Join.f k l) (joinB l) := rJoin_l0 l h l.length 0 [] (by omega) rfl
end Go.Proofs.YtajafgcndalieaaDoor.Pure
