/- TextTabs, the plain law: both sides answer alike. Conditions: the text and the stops are at most 2^20 long. -/
import Derived.Test.YtkfpghggejikiaaPn4
import Derived.Test.YtkfpghggejikiaaTabs
namespace Go.Proofs.Ytkfpghggejikiaa.Pure
set_option linter.unusedSimpArgs false
open Go.RowKit Go.Proofs.Ytkfpghggejikiaa.P Go.Proofs.YtkfpghggejikiaaW.PrintWords Go.Proofs.YtkfpghggejikiaaW.PrintLast Go.Proofs.YtkfpghggejikiaaW.PrintMore

theorem rd_drop (x : List Int) (s i : Nat) : rd (x.drop s) (i : Int) = rd x ((s + i : Nat) : Int) := by
  simp only [rd, Int.toNat_natCast, List.getD_eq_getElem?_getD, List.getElem?_drop]
theorem rd_app (a b : List Int) (i : Nat) (h : i < a.length) : rd (a ++ b) (i : Int) = rd a (i : Int) := by
  simp [rd, List.getD_eq_getElem?_getD, List.getElem?_append_left h]
theorem rd_mid (a b : List Int) (z : Int) : rd (a ++ z :: b) (a.length : Int) = z := by
  simp [rd, List.getD_eq_getElem?_getD]
theorem rd_mem (a : List Int) (i : Nat) (h : i < a.length) : rd a (i : Int) ∈ a := by
  simp [rd, List.getD_eq_getElem?_getD, List.getElem?_eq_getElem h]
theorem mem_rd (a : List Int) (v : Int) (h : v ∈ a) : ∃ i : Nat, i < a.length ∧ rd a (i : Int) = v := by
  obtain ⟨i, hi, e⟩ := List.getElem_of_mem h
  exact ⟨i, hi, by simp [rd, List.getD_eq_getElem?_getD, List.getElem?_eq_getElem hi, e]⟩
theorem whole_cons (y : List Int) (ys : List (List Int)) (e : Bool) (he : ys = [] → e = true) : whole (y :: ys) e = y ++ 10 :: whole ys e := by
  cases ys with
  | nil => simp [whole, he rfl]
  | cons z ys => rfl
theorem sp_len : ∀ z : List Int, (sp z).1.length ≤ z.length
  | [] => by simp [sp]
  | b :: r => by
    have ih := sp_len r
    simp only [sp]
    split
    · simpa using ih
    · split
      · simp
      · rename_i e
        rw [e] at ih
        simpa using Nat.le_succ_of_le ih

theorem all_lines {l : List Int} (h : OkS l) (hl : l.length ≤ 1099511627776) {x : List Int} (hx : x.length ≤ 1048576) (all ended : Bool) : ∀ (ls done : List (List Int)) (s : Nat) (P : List Int) (e : Bool), s ≤ x.length → sp (x.drop s) = (ls, e) → P.length ≤ 1001 * s → (done.length + ls.length : Nat) ≤ 1099511627776 →
    ∃ ys, ys.length = ls.length ∧ (whole ys e).length ≤ 1001 * (x.length - s) ∧
      Ev (fun k => text_Unexpand.l0 k x all (st l) P 0 true (s : Int)) (P ++ whole ys e, 0) ∧
      ∀ r, Ev (fun k => tinselref15_Whole.f k (done ++ ys) ended) r → Ev (fun k => tinselref15_Unexpand.l0 k l all (done ++ ls) ended ((done.length + ls.length : Nat) : Int) (done.length : Int)) (r, 0) := by
  intro ls
  induction ls with
  | nil =>
    intro done s P e hs hsp hP hN
    obtain ⟨hz, he⟩ := sp_nil (x.drop s) (by rw [hsp])
    have hs2 : x.length ≤ s := by simpa using hz
    refine ⟨[], rfl, by simp [whole], ?_, fun r hr => ?_⟩
    · refine Ev.step (fun k => by rw [text_Unexpand.l0]) ?_
      simp only [show ¬ (s : Int) < x.length by omega, if_false, whole, List.append_nil]
      exact Ev.now _
    · refine Ev.step (fun k => by rw [tinselref15_Unexpand.l0]) ?_
      simp only [List.length_nil, Nat.add_zero, Int.lt_irrefl, if_false]
      exact Ev.bind hr (Ev.now _)
  | cons ln ls ih =>
    intro done s P e hs hsp hP hN
    obtain ⟨hno, hcase⟩ := sp_cons _ _ _ _ hsp
    have hdl : (x.drop s).length = x.length - s := by simp
    have L : Ln x ln s := by
      rcases hcase with ⟨h1, -, -⟩ | ⟨r, h1, -⟩
      · rw [h1] at hdl
        refine ⟨by omega, fun i hi => by rw [← rd_drop, h1], fun i hi => hno _ (rd_mem ln i hi), .inl (by omega)⟩
      · rw [h1] at hdl
        simp only [List.length_append, List.length_cons] at hdl
        refine ⟨by omega, fun i hi => by rw [← rd_drop, h1, rd_app _ _ _ hi], fun i hi => hno _ (rd_mem ln i hi), .inr ?_⟩
        rw [← rd_drop, h1, rd_mid]
    have hf := L.fit
    obtain ⟨y, c', b, g1, g2, g3, gt, gr⟩ := line h hl hx L all (done ++ ln :: ls) ended (done.length : Int) ((done.length + (ln :: ls).length : Nat) : Int) (done.length : Int) P (by omega) ln.length 0 0 [] (by omega) (by omega) (by omega) (by omega) (by simp)
    have gt := fun R hR => (show Ev (fun k => text_Unexpand.l0 k x all (st l) P 0 true (s : Int)) R from by
      have := gt R hR
      rw [List.append_nil] at this
      exact this)
    have ref : ∀ R, Ev (fun k => tinselref15_Unexpand.l0 k l all ((done ++ [y]) ++ ls) ended (((done ++ [y]).length + ls.length : Nat) : Int) ((done ++ [y]).length : Int)) R → Ev (fun k => tinselref15_Unexpand.l0 k l all (done ++ ln :: ls) ended ((done.length + (ln :: ls).length : Nat) : Int) (done.length : Int)) R := by
      intro R hR
      have e1 : rd_L1 (done ++ ln :: ls) (done.length : Int) = ln := by simp [rd_L1, List.getD_eq_getElem?_getD]
      have e2 : (done ++ ln :: ls).set done.length y = (done ++ [y]) ++ ls := by simp
      have e3 : (((done ++ [y]).length + ls.length : Nat) : Int) = ((done.length + (ln :: ls).length : Nat) : Int) := by simp; omega
      have e4 : ((done ++ [y]).length : Int) = ((done.length + 1 : Nat) : Int) := by simp
      rw [e3, e4] at hR
      have hlen : (done ++ ln :: ls).length = done.length + (ln :: ls).length := by simp
      simp only [List.length_cons] at hN
      have T := gr R (by
        refine Ev.step (fun k => by rw [tinselref15_Unexpand.l1]) ?_
        simp only [Int.lt_irrefl, if_false, show (0 : Int) ≤ done.length by omega, if_true, hlen, show (done.length : Int) < ((done.length + (ln :: ls).length : Nat) : Int) by simp; omega, Int.toNat_natCast, e2, w64s done.length (by omega)]
        exact hR)
      refine Ev.step (fun k => by rw [tinselref15_Unexpand.l0]) ?_
      simp only [show (0 : Int) ≤ done.length by omega, if_true, hlen, show (done.length : Int) < ((done.length + (ln :: ls).length : Nat) : Int) by simp; omega, e1]
      exact T
    rcases hcase with ⟨h1, rfl, rfl⟩ | ⟨r, h1, h2⟩
    · obtain ⟨ys, k1, -, -, k4⟩ := ih (done ++ [y]) x.length [] true (Nat.le_refl _) (by rw [List.drop_length]; rfl) (by simp) (by simpa using hN)
      obtain rfl : ys = [] := by simpa using k1
      rw [h1] at hdl
      refine ⟨[y], rfl, ?_, ?_, fun r hr => ref _ (k4 r (by simpa using hr))⟩
      · simp [whole]; omega
      · refine gt _ ?_
        refine Ev.step (fun k => by rw [text_Unexpand.l0]) ?_
        simp only [show ¬ ((s + ln.length : Nat) : Int) < x.length by omega, if_false, whole, Bool.false_eq_true]
        exact Ev.now _
    · rw [h1] at hdl
      simp only [List.length_append, List.length_cons] at hdl
      have hr : x.drop (s + ln.length + 1) = r := by
        have : x.drop (s + ln.length + 1) = (x.drop s).drop (ln.length + 1) := by rw [List.drop_drop]; congr 1
        rw [this, h1]
        simp [List.drop_append]
      obtain ⟨ys, k1, k2, k3, k4⟩ := ih (done ++ [y]) (s + ln.length + 1) (P ++ y ++ [10]) e (by omega) (by rw [hr]; exact h2) (by simp; omega) (by simp at hN ⊢; omega)
      have hw := whole_cons y ys e (fun e0 => by
        subst e0
        have : ls = [] := by simpa using k1.symm
        subst this
        have := sp_nil r (by rw [h2])
        rw [h2] at this
        exact this.2)
      refine ⟨y :: ys, by simp [k1], ?_, ?_, fun r' hr' => ref _ (k4 r' (by simpa using hr'))⟩
      · rw [hw]
        simp only [List.length_append, List.length_cons]
        omega
      · refine gt _ ?_
        rw [hw]
        have e10 : rd x ((s + ln.length : Nat) : Int) = 10 := by rw [← rd_drop, h1, rd_mid]
        refine Ev.step (fun k => by rw [text_Unexpand.l0]) ?_
        simp only [show ((s + ln.length : Nat) : Int) < x.length by omega, if_true, show (0 : Int) ≤ ((s + ln.length : Nat) : Int) by omega, e10, tnblank 10 (by unfold bl; omega), Option.bind_some, Bool.false_eq_true, if_false]
        refine Ev.step (fun k => by rw [text_Unexpand.j1]) ?_
        simp only [show ((s + ln.length : Nat) : Int) < x.length by omega, if_true, show (0 : Int) ≤ ((s + ln.length : Nat) : Int) by omega, e10, Option.bind_some, show (P ++ y).length < 140737488355328 by simp; omega, show ¬ (10 : Int) = 9 by omega, if_false, tstep c' 10 (by omega) g1 (by omega), w64s (s + ln.length) (by omega), beq_self_eq_true]
        simpa using k3

/-- The stops: both sides refuse the same ones. -/
theorem stops_l0 (l : List Int) (hl : l.length ≤ 1099511627776) : ∀ (n i : Nat), i + n = l.length →
    ∃ v : Bool, Ev (fun k => tinselref15_Stops.l0 k l l (l.length : Int) (i : Int)) v ∧ Ev (fun k => text_read.l0 k l l (l.length : Int) (i : Int)) (if v = true then (l, 0) else ([], 22)) ∧ (v = true → ∀ t : Nat, i ≤ t → t < l.length → 1 ≤ rd l (t : Int))
  | 0, i, h => by
    refine ⟨true, ?_, ?_, fun _ t h1 h2 => absurd h2 (by omega)⟩
    · refine Ev.step (fun k => by rw [tinselref15_Stops.l0]) ?_
      simp only [show ¬ (i : Int) < l.length by omega, if_false]
      exact Ev.now _
    · refine Ev.step (fun k => by rw [text_read.l0]) ?_
      simp only [show ¬ (i : Int) < l.length by omega, if_false]
      exact Ev.now _
  | n + 1, i, h => by
    by_cases h1 : rd l (i : Int) < 1
    · refine ⟨false, ?_, ?_, fun h => by cases h⟩
      · refine Ev.step (fun k => by rw [tinselref15_Stops.l0]) ?_
        simp only [show (i : Int) < l.length by omega, if_true, show (0 : Int) ≤ i by omega, h1]
        exact Ev.now _
      · refine Ev.step (fun k => by rw [text_read.l0]) ?_
        simp only [show (i : Int) < l.length by omega, if_true, show (0 : Int) ≤ i by omega, h1]
        exact Ev.now _
    · by_cases h2 : (i : Int) > 0 ∧ rd l (i : Int) ≤ rd l ((i : Int) - 1)
      · refine ⟨false, ?_, ?_, fun h => by cases h⟩
        · refine Ev.step (fun k => by rw [tinselref15_Stops.l0]) ?_
          simp only [show (i : Int) < l.length by omega, if_true, show (0 : Int) ≤ i by omega, h1, if_false, h2.1, w64 ((i : Int) - 1) (by omega) (by omega), show (0 : Int) ≤ (i : Int) - 1 by omega, show (i : Int) - 1 < l.length by omega, h2.2]
          exact Ev.now _
        · refine Ev.step (fun k => by rw [text_read.l0]) ?_
          simp only [show (i : Int) < l.length by omega, if_true, show (0 : Int) ≤ i by omega, h1, if_false, h2.1, w64 ((i : Int) - 1) (by omega) (by omega), show (0 : Int) ≤ (i : Int) - 1 by omega, show (i : Int) - 1 < l.length by omega, h2.2]
          exact Ev.now _
      · obtain ⟨v, ha, hb, hc⟩ := stops_l0 l hl n (i + 1) (by omega)
        refine ⟨v, ?_, ?_, fun hv t g1 g2 => ?_⟩
        · refine Ev.step (fun k => by rw [tinselref15_Stops.l0]) ?_
          simp only [show (i : Int) < l.length by omega, if_true, show (0 : Int) ≤ i by omega, h1, if_false, w64s i (by omega)]
          by_cases h3 : (i : Int) > 0
          · have h4 : ¬ rd l (i : Int) ≤ rd l ((i : Int) - 1) := fun e => h2 ⟨h3, e⟩
            simp only [h3, if_true, w64 ((i : Int) - 1) (by omega) (by omega), show (0 : Int) ≤ (i : Int) - 1 by omega, show (i : Int) - 1 < l.length by omega, h4, if_false]
            exact ha
          · simp only [h3, if_false]
            exact ha
        · refine Ev.step (fun k => by rw [text_read.l0]) ?_
          simp only [show (i : Int) < l.length by omega, if_true, show (0 : Int) ≤ i by omega, h1, if_false, w64s i (by omega)]
          by_cases h3 : (i : Int) > 0
          · have h4 : ¬ rd l (i : Int) ≤ rd l ((i : Int) - 1) := fun e => h2 ⟨h3, e⟩
            simp only [h3, if_true, w64 ((i : Int) - 1) (by omega) (by omega), show (0 : Int) ≤ (i : Int) - 1 by omega, show (i : Int) - 1 < l.length by omega, h4, if_false]
            exact hb
          · simp only [h3, if_false]
            exact hb
        · by_cases e : t = i
          · rw [e]; omega
          · exact hc hv t (by omega) g2
theorem stops (l : List Int) (hl : l.length ≤ 1099511627776) : ∃ v : Bool, Ev (fun k => tinselref15_Stops.f k l) v ∧ Ev (fun k => text_read.f k l) (if v = true then (st l, 0) else ([], 22)) ∧ (v = true → ∀ t ∈ l, 1 ≤ t) := by
  obtain ⟨v, h1, h2, h3⟩ := stops_l0 l hl l.length 0 (by omega)
  refine ⟨v, h1, ?_, fun hv t ht => ?_⟩
  · unfold text_read.f st
    by_cases h0 : l.length = 0
    · have : l = [] := by simpa using h0
      subst this
      have hv : v = true := by
        obtain ⟨K, hK⟩ := h1
        have h5 : tinselref15_Stops.l0 (K + 1) [] [] (([] : List Int).length : Int) ((0 : Nat) : Int) = some v := hK (K + 1) (by omega)
        rw [tinselref15_Stops.l0] at h5
        simpa using h5.symm
      subst hv
      simp only [List.length_nil, Int.natCast_zero, if_true]
      exact Ev.now _
    · simp only [show ¬ (l.length : Int) = 0 by omega, h0, if_false]
      exact h2
  · obtain ⟨i, hi, e⟩ := mem_rd l t ht
    rw [← e]
    exact h3 hv i (by omega) hi
theorem big_l0 (l : List Int) (hl : l.length ≤ 1099511627776) : ∀ (n i : Nat), i + n = l.length →
    ∃ v : Bool, Ev (fun k => tinsellaw15_big.l0 k l (l.length : Int) (i : Int)) v ∧ (v = false → ∀ t : Nat, i ≤ t → t < l.length → rd l (t : Int) ≤ 1000)
  | 0, i, h => by
    refine ⟨false, ?_, fun _ t h1 h2 => absurd h2 (by omega)⟩
    refine Ev.step (fun k => by rw [tinsellaw15_big.l0]) ?_
    simp only [show ¬ (i : Int) < l.length by omega, if_false]
    exact Ev.now _
  | n + 1, i, h => by
    by_cases h1 : rd l (i : Int) > 1000
    · refine ⟨true, ?_, fun h => by cases h⟩
      refine Ev.step (fun k => by rw [tinsellaw15_big.l0]) ?_
      simp only [show (i : Int) < l.length by omega, if_true, show (0 : Int) ≤ i by omega, h1]
      exact Ev.now _
    · obtain ⟨v, ha, hc⟩ := big_l0 l hl n (i + 1) (by omega)
      refine ⟨v, ?_, fun hv t g1 g2 => ?_⟩
      · refine Ev.step (fun k => by rw [tinsellaw15_big.l0]) ?_
        simp only [show (i : Int) < l.length by omega, if_true, show (0 : Int) ≤ i by omega, h1, if_false, w64s i (by omega)]
        exact ha
      · by_cases e : t = i
        · rw [e]; omega
        · exact hc hv t (by omega) g2
theorem bigs (l : List Int) (hl : l.length ≤ 1099511627776) : ∃ v : Bool, Ev (fun k => tinsellaw15_big.f k l) v ∧ (v = false → ∀ t ∈ l, t ≤ 1000) := by
  obtain ⟨v, h1, h3⟩ := big_l0 l hl l.length 0 (by omega)
  refine ⟨v, h1, fun hv t ht => ?_⟩
  obtain ⟨i, hi, e⟩ := mem_rd l t ht
  rw [← e]
  exact h3 hv i (by omega) hi

theorem same_self (a : List Int) : tinsellaw15_same.f a a = some true := by
  unfold tinsellaw15_same.f tinselref01_Same.f
  simp
theorem lives : Ev (fun k => tinsellaw15_lives.f k) true := by
  refine Ev.of (k := 40) (fun k => tinsellaw15_lives.mono k) ?_
  decide +kernel

theorem rest (x l : List Int) (all : Bool) (hx : x.length ≤ 1048576) (hl : l.length ≤ 1099511627776) (v : Bool) (hs : Ev (fun k => tinselref15_Stops.f k l) v) (hr : Ev (fun k => text_read.f k l) (if v = true then (st l, 0) else ([], 22))) (ok : v = true → OkS l) :
    Ev (fun k => tinsellaw15_TextTabs.j0 k x l all false) true := by
  have pair : ∃ (a b : List Int) (e : Int), Ev (fun k => text_Expand.f k x l) (a, e) ∧ Ev (fun k => tinselref15_Expand.f k x l) (a, e) ∧ Ev (fun k => text_Unexpand.f k x l all) (b, e) ∧ Ev (fun k => tinselref15_Unexpand.f k x l all) (b, e) := by
    cases v with
    | false =>
      refine ⟨[], [], 22, ?_, ?_, ?_, ?_⟩
      · unfold text_Expand.f
        refine Ev.bind hr ?_
        simp only [Bool.false_eq_true, if_false, show ¬ (22 : Int) = 0 by omega]
        exact Ev.now _
      · unfold tinselref15_Expand.f
        refine Ev.bind hs ?_
        simp only [Bool.false_eq_true, if_false]
        exact Ev.now _
      · unfold text_Unexpand.f
        refine Ev.bind hr ?_
        simp only [Bool.false_eq_true, if_false, show ¬ (22 : Int) = 0 by omega]
        exact Ev.now _
      · unfold tinselref15_Unexpand.f
        refine Ev.bind hs ?_
        simp only [Bool.false_eq_true, if_false]
        exact Ev.now _
    | true =>
      have O := ok rfl
      obtain ⟨a, h1, h2⟩ := expands l O hl x hx x.length 0 [] 0 (by omega) (by omega) (by omega) (by simp)
      have hsl := sp_len x
      obtain ⟨ys, h3, h4, h5, h6⟩ := all_lines O hl hx all (sp x).2 (sp x).1 [] 0 [] (sp x).2 (by omega) rfl (by simp) (by simp; omega)
      refine ⟨a, whole ys (sp x).2, 0, ?_, ?_, ?_, ?_⟩
      · unfold text_Expand.f
        refine Ev.bind hr ?_
        simp only [if_true]
        exact h1
      · unfold tinselref15_Expand.f
        refine Ev.bind hs ?_
        simp only [if_true]
        exact h2
      · unfold text_Unexpand.f
        refine Ev.bind hr ?_
        simp only [if_true]
        exact h5
      · unfold tinselref15_Unexpand.f
        refine Ev.bind hs ?_
        simp only [if_true]
        refine Ev.bind (lines x hx) ?_
        have := h6 _ (wholes ([] ++ ys) (sp x).2 (by simp; omega) (by simp; omega))
        simpa using this
  obtain ⟨a, b, e, h1, h2, h3, h4⟩ := pair
  refine Ev.step (fun k => by rw [tinsellaw15_TextTabs.j0]) ?_
  simp only [Bool.false_eq_true, if_false]
  refine Ev.bind h1 (Ev.bind h2 (Ev.bind h3 (Ev.bind h4 ?_)))
  simp only [if_true, same_self, Option.bind_some]
  exact Ev.bind lives (Ev.now _)

theorem TextTabsUpto (x l : List Int) (all : Bool) (hx : x.length ≤ 1048576) (hl : l.length ≤ 1048576) : ∃ k, tinsellaw15_TextTabs.f k x l all = some true := by
  refine Ev.rounds (g := fun k => tinsellaw15_TextTabs.f k x l all) ?_
  obtain ⟨v, hs, hr, hv⟩ := stops l (by omega)
  obtain ⟨b, hb, hb1⟩ := bigs l (by omega)
  unfold tinsellaw15_TextTabs.f
  refine Ev.bind hb ?_
  cases b with
  | true =>
    simp only [if_true]
    refine Ev.bind hs ?_
    cases v with
    | true =>
      refine Ev.step (fun k => by rw [tinsellaw15_TextTabs.j0]) ?_
      simp only [if_true]
      exact Ev.bind lives (Ev.now _)
    | false => exact rest x l all hx (by omega) false hs hr (fun h => by cases h)
  | false =>
    simp only [Bool.false_eq_true, if_false]
    exact rest x l all hx (by omega) v hs hr (fun h t ht => ⟨hv h t ht, hb1 rfl t ht⟩)
end Go.Proofs.Ytkfpghggejikiaa.Pure
