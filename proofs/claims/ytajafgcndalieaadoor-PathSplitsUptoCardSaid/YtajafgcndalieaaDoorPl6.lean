/- The law PathSplits, the plain part: Split and String answer as the document's. Conditions: what is read is of bulk at most 2^20. -/
import Derived.Test.YtajafgcndalieaaDoorPl3
import Derived.Test.YtajafgcndalieaaDoorLv
import Derived.Test.YtajafgcndalieaaDoorPx9
namespace Go.Proofs.YtajafgcndalieaaDoor.Pure
set_option linter.unusedSimpArgs false
set_option linter.unusedVariables false
open Go.RowKit Go.Proofs.YtajafgcndalieaaDoor.P Go.Proofs.YtajafgcndalieaaDoorW.PrintWords Go.Proofs.YtajafgcndalieaaDoorW.PrintLast Go.Proofs.YtajafgcndalieaaDoorW.PrintMore
/-- has it a byte 0 from a place on? -/
def zr (s : ByteArray) (i : Nat) : Bool := (s.data.toList.drop i).contains 0
theorem ixb (c : UInt8) : ∀ l : List UInt8, (0 ≤ Lib.indexByte l c ↔ l.contains c = true) ∧ -1 ≤ Lib.indexByte l c
  | [] => by simp [Lib.indexByte]
  | b :: l => by
    have ih := ixb c l
    unfold Lib.indexByte
    by_cases h : b = c
    · subst h
      simp
    · have h1 : (b == c) = false := beq_eq_false_iff_ne.mpr h
      have h2 : (c == b) = false := beq_eq_false_iff_ne.mpr (Ne.symm h)
      rw [List.contains_cons, h1, h2, Bool.false_or]
      simp only [Bool.false_eq_true, if_false]
      by_cases h3 : Lib.indexByte l c = -1
      · have h4 : (Lib.indexByte l c == -1) = true := beq_iff_eq.mpr h3
        rw [h4, if_pos rfl]
        refine ⟨⟨fun h => by omega, fun h => ?_⟩, by omega⟩
        have := ih.1.mpr h
        omega
      · have h4 : (Lib.indexByte l c == -1) = false := beq_eq_false_iff_ne.mpr h3
        rw [h4, if_neg (by simp)]
        refine ⟨⟨fun h => ih.1.mp (by omega), fun h => ?_⟩, by omega⟩
        have := ih.1.mpr h
        omega
theorem b0 (b : UInt8) : (b.toNat : Int) = 0 ↔ b = 0 := by
  constructor
  · intro h
    exact UInt8.toNat_inj.mp (by have h0 : (0 : UInt8).toNat = 0 := rfl; omega)
  · rintro rfl
    rfl
def endB (s : ByteArray) (l : List ByteArray) : Bool × List ByteArray × Bool × Int := (absB s, l, decide (0 < (l.length : Int)) && (bt s ((s.size : Int) - 1) == 47), 0)
theorem zeros_l1 (s : ByteArray) (l : List ByteArray) (hs : s.size ≤ 1048576) (hp : 0 < s.size) : ∀ n i, i + n = s.size →
    Ev (fun k => tinselref03_Split.l1 k s l (i : Int)) (if zr s i = true then (false, [], false, 22) else endB s l)
  | 0, i, hi => by
    refine Ev.step (fun k => by rw [tinselref03_Split.l1]) ?_
    have hz : zr s i = false := by
      unfold zr
      rw [List.drop_eq_nil_of_le (by rw [len_data]; omega)]
      rfl
    have hw : wrap64 ((s.size : Int) - 1) = (s.size : Int) - 1 := by unfold wrap64; omega
    rw [hz]
    simp only [show ¬ (i : Int) < s.size by omega, if_false, abs_ref, Option.bind_some, Bool.false_eq_true, hw, show (0 : Int) ≤ (s.size : Int) - 1 by omega, show (s.size : Int) - 1 < (s.size : Int) by omega, if_true, endB, gt_iff_lt]
    by_cases hl : (0 : Int) < (l.length : Int)
    · simp only [hl, if_true, decide_true, Bool.true_and]
      exact Ev.now _
    · have : l = [] := by
        rcases l with _ | ⟨x, l⟩
        · rfl
        · exact absurd (show (0 : Int) < ((x :: l).length : Int) by simp) hl
      subst this
      simp only [List.length_nil, Int.natCast_zero, show ¬ (0 : Int) < 0 by omega, if_false, decide_false, Bool.false_and]
      exact Ev.now _
  | n + 1, i, hi => by
    refine Ev.step (fun k => by rw [tinselref03_Split.l1]) ?_
    have hlt : i < s.size := by omega
    have ih := zeros_l1 s l hs hp n (i + 1) (by omega)
    have hz : zr s i = (s[i] == 0 || zr s (i + 1)) := by
      unfold zr
      rw [drop_at s i hlt, List.contains_cons]
      congr 1
      rw [Bool.eq_iff_iff]
      simp only [beq_iff_eq]
      exact eq_comm
    rw [hz]
    simp only [show (i : Int) < s.size by omega, if_true, show (0 : Int) ≤ i by omega, w64s i (by omega), bt_ix s i hlt]
    by_cases h : s[i] = 0
    · simp only [(b0 _).mpr h, if_true, h, beq_self_eq_true, Bool.true_or]
      exact Ev.now _
    · simp only [mt (b0 _).mp h, if_false, beq_eq_false_iff_ne.mpr h, Bool.false_or]
      exact ih
theorem longs_l0 (s : ByteArray) (l : List ByteArray) (hs : s.size ≤ 1048576) (hp : 0 < s.size) (hl : l.length ≤ 1099511627776) : ∀ n i, i + n = l.length →
    Ev (fun k => tinselref03_Split.l0 k s l l (l.length : Int) (i : Int)) (if (l.drop i).any (fun n => decide (27 < (n.size : Int))) = true then (false, [], false, 36) else if zr s 0 = true then (false, [], false, 22) else endB s l)
  | 0, i, hi => by
    refine Ev.step (fun k => by rw [tinselref03_Split.l0]) ?_
    rw [List.drop_eq_nil_of_le (by omega)]
    simp only [show ¬ (i : Int) < l.length by omega, if_false, List.any_nil, Bool.false_eq_true]
    exact zeros_l1 s l hs hp s.size 0 (by omega)
  | n + 1, i, hi => by
    refine Ev.step (fun k => by rw [tinselref03_Split.l0]) ?_
    have hlt : i < l.length := by omega
    have ih := longs_l0 s l hs hp hl n (i + 1) (by omega)
    rw [drop_row l i hlt, List.any_cons]
    obtain ⟨x, hx⟩ : ∃ x, rdOf ByteArray.empty l (i : Int) = x := ⟨_, rfl⟩
    simp only [show (i : Int) < l.length by omega, if_true, show (0 : Int) ≤ i by omega, w64s i (by omega), hx, gt_iff_lt]
    by_cases h : (27 : Int) < (x.size : Int)
    · simp only [h, if_true, decide_true, Bool.true_or]
      exact Ev.now _
    · simp only [h, if_false, decide_false, Bool.false_or]
      exact ih
def splitB (s : ByteArray) : Bool × List ByteArray × Bool × Int :=
  if s.toList = [] then (false, [], false, 2) else if longB s (namesB s) = true then (false, [], false, 36) else if zr s 0 = true then (false, [], false, 22) else endB s (namesB s)
theorem pSplit (s : ByteArray) (hs : s.size ≤ 1048576) : path_Split.f s = some (splitB s) := by
  have h1 := names_wt s
  have h2 := len_wt (namesB s)
  unfold path_Split.f splitB
  by_cases h0 : s.toList = []
  · rw [if_pos h0, if_pos h0]
  · have hp : 0 < s.size := Nat.pos_of_ne_zero (mt (nil_size s).mpr h0)
    rw [if_neg h0, if_neg h0, if_pos (by omega), if_pos (by omega)]
    by_cases h3 : longB s (namesB s) = true
    · rw [if_pos h3, if_pos h3]
    · rw [if_neg h3, if_neg h3]
      have hz : (0 ≤ Lib.indexByte s.data.toList 0) ↔ zr s 0 = true := (ixb 0 s.data.toList).1
      by_cases h4 : zr s 0 = true
      · rw [if_pos (hz.mpr h4), if_pos h4]
      · rw [if_neg (mt hz.mp h4), if_neg h4]
        have ha : absB s = (bt s 0 == 47) := by
          unfold absB
          rw [decide_eq_true hp, Bool.true_and]
        unfold endB
        rw [ha]
theorem rSplit (s : ByteArray) (hs : s.size ≤ 1048576) : Ev (fun k => tinselref03_Split.f k s) (splitB s) := by
  have h1 := names_wt s
  have h2 := len_wt (namesB s)
  unfold tinselref03_Split.f splitB
  by_cases h0 : s.toList = []
  · simp only [h0, if_true]
    exact Ev.now _
  · have hp : 0 < s.size := Nat.pos_of_ne_zero (mt (nil_size s).mpr h0)
    simp only [h0, if_false]
    refine Ev.bind (names s hs) ?_
    unfold longB
    by_cases h3 : (255 : Int) < (s.size : Int)
    · simp only [gt_iff_lt, h3, if_true, decide_true, Bool.true_or]
      exact Ev.now _
    · simp only [gt_iff_lt, h3, if_false, decide_false, Bool.false_or]
      exact longs_l0 s (namesB s) hs hp (by omega) (namesB s).length 0 (by omega)
theorem same_l0 (l : List ByteArray) (a c b d : Bool) (hl : l.length ≤ 1099511627776) : ∀ n i, i + n = l.length → Ev (fun k => tinselref03_Same.l0 k (l.length : Int) (i : Int) a l b c l d) true
  | 0, i, hi => by
    refine Ev.step (fun k => by rw [tinselref03_Same.l0]) ?_
    simp only [show ¬ (i : Int) < l.length by omega, if_false]
    exact Ev.now _
  | n + 1, i, hi => by
    refine Ev.step (fun k => by rw [tinselref03_Same.l0]) ?_
    simp only [show (i : Int) < l.length by omega, if_true, show (0 : Int) ≤ i by omega, w64s i (by omega)]
    exact same_l0 l a c b d hl n (i + 1) (by omega)
theorem same_self (l : List ByteArray) (a b : Bool) (hl : l.length ≤ 1099511627776) : Ev (fun k => tinselref03_Same.f k a l b a l b) true := by
  unfold tinselref03_Same.f
  simp only [bne_self_eq_false, Bool.false_eq_true, if_false]
  refine Ev.step (fun k => by rw [tinselref03_Same.j0]) ?_
  simp only [Bool.false_eq_true, if_false]
  exact same_l0 l a a b b hl l.length 0 (by omega)
theorem texts_l0 (l : List ByteArray) (hl : l.length ≤ 1099511627776) : ∀ n i, i + n = l.length → Ev (fun k => tinselref01_Texts.l0 k l l (l.length : Int) (i : Int)) true
  | 0, i, hi => by
    refine Ev.step (fun k => by rw [tinselref01_Texts.l0]) ?_
    simp only [show ¬ (i : Int) < l.length by omega, if_false]
    exact Ev.now _
  | n + 1, i, hi => by
    refine Ev.step (fun k => by rw [tinselref01_Texts.l0]) ?_
    simp only [show (i : Int) < l.length by omega, if_true, show (0 : Int) ≤ i by omega, w64s i (by omega)]
    exact texts_l0 l hl n (i + 1) (by omega)
theorem texts_self (l : List ByteArray) (hl : l.length ≤ 1099511627776) : Ev (fun k => tinselref01_Texts.f k l l) true := by
  unfold tinselref01_Texts.f
  simp only [if_true]
  exact texts_l0 l hl l.length 0 (by omega)
theorem spoil_l0 (s : ByteArray) (hs : s.size ≤ 1048576) (a b : Bool) : ∀ (n i : Nat) (l : List ByteArray), i + n = l.length → l.length ≤ 1099511627776 →
    Ev (fun k => tinsellaw03_PathSplits.l0 k s (l.length : Int) (i : Int) a l b (splitB s).1 (splitB s).2.1 (splitB s).2.2.1) true
  | 0, i, l, hi, hl => by
    refine Ev.step (fun k => by rw [tinsellaw03_PathSplits.l0]) ?_
    simp only [show ¬ (i : Int) < l.length by omega, if_false, pSplit s hs, Option.bind_some]
    have hlen : (splitB s).2.1.length ≤ 1099511627776 := by
      have h1 := names_wt s
      have h2 := len_wt (namesB s)
      unfold splitB endB
      repeat' split
      all_goals simp
      all_goals omega
    refine Ev.bind (same_self _ _ _ hlen) ?_
    simp only [if_true]
    exact Ev.bind lives (Ev.now _)
  | n + 1, i, l, hi, hl => by
    refine Ev.step (fun k => by rw [tinsellaw03_PathSplits.l0]) ?_
    simp only [show (i : Int) < l.length by omega, if_true, show (0 : Int) ≤ i by omega, w64s i (by omega)]
    have ih := spoil_l0 s hs a b n (i + 1) (l.set (i : Int).toNat (⟨#[120]⟩ : ByteArray)) (by simp; omega) (by simpa using hl)
    rw [List.length_set] at ih
    exact ih
theorem PathSplits (s : ByteArray) (a : Bool) (l : List ByteArray) (b : Bool) (hs : s.size ≤ 1048576) (hl : (l.map fun n => n.size + 1).sum ≤ 1048576) : ∃ k, tinsellaw03_PathSplits.f k s a l b = some true := by
  have hw : wt l ≤ 1048576 := hl
  have hlw := len_wt l
  have hlen : (splitB s).2.1.length ≤ 1099511627776 := by
    have h1 := names_wt s
    have h2 := len_wt (namesB s)
    unfold splitB endB
    repeat' split
    all_goals simp
    all_goals omega
  refine Ev.rounds (g := fun k => tinsellaw03_PathSplits.f k s a l b) ?_
  unfold tinsellaw03_PathSplits.f
  simp only [pSplit s hs, Option.bind_some]
  refine Ev.bind (rSplit s hs) ?_
  simp only [if_true]
  refine Ev.bind (same_self _ _ _ hlen) ?_
  refine Ev.step (fun k => by rw [tinsellaw03_PathSplits.j0]) ?_
  simp only [Bool.not_true, Bool.false_eq_true, if_false, Option.bind_some, List.length_nil, Nat.zero_add, show l.length < 8796093022208 by omega, if_true, List.nil_append]
  refine Ev.bind (pstring a l b (by omega)) (Ev.bind (rstring a l b (by omega)) ?_)
  simp only [if_true]
  refine Ev.bind (texts_self l (by omega)) ?_
  refine Ev.step (fun k => by rw [tinsellaw03_PathSplits.j1]) ?_
  simp only [Bool.not_true, Bool.false_eq_true, if_false]
  exact spoil_l0 s hs _ _ (splitB s).2.1.length 0 _ (by omega) hlen
end Go.Proofs.YtajafgcndalieaaDoor.Pure
