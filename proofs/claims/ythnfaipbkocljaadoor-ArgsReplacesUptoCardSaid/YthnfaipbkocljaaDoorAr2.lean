/- args, plain: Assign; the law ArgsReplaces. -/
import Derived.Test.YthnfaipbkocljaaDoorAr1
import Derived.Test.YthnfaipbkocljaaDoorPx4
namespace Go.Proofs.YthnfaipbkocljaaDoor.Pure
set_option linter.unusedSimpArgs false
set_option linter.unusedVariables false
open Go.RowKit Go.Proofs.YthnfaipbkocljaaDoor.P Go.Proofs.YthnfaipbkocljaaDoorW.PrintWords Go.Proofs.YthnfaipbkocljaaDoorW.PrintLast Go.Proofs.YthnfaipbkocljaaDoorW.PrintMore

theorem occ_one (S : List UInt8) (c : UInt8) (j : Nat) : Lib.occAt S [c] j = true ↔ S[j]? = some c := by
  rw [Lib.occAt, pre_iff]
  simp only [List.length_singleton]
  constructor
  · intro h
    have := congrArg (fun l => l[0]?) h
    simpa [List.getElem?_take] using this
  · intro h
    rw [Lib.drop_at h]
    rfl
theorem b61 (b : UInt8) : (b.toNat : Int) = 61 ↔ b = 61 := by
  constructor
  · intro h
    exact UInt8.toNat_inj.mp (by have h61 : (61 : UInt8).toNat = 61 := rfl; omega)
  · rintro rfl
    rfl
theorem asg_none (s : ByteArray) (hs : s.size ≤ 1048576) (h : ∀ j : Nat, j < s.size → ¬ bt s (j : Int) = 61) : ∀ n i, i + n = s.size → Ev (fun k => tinselref22_Assign.l0 k s (s.size : Int) (i : Int)) (⟨#[]⟩, ⟨#[]⟩, false)
  | 0, i, hi => by
    refine Ev.step (fun k => by rw [tinselref22_Assign.l0]) ?_
    simp only [show ¬ (i : Int) < s.size by omega, if_false]
    exact Ev.now _
  | n + 1, i, hi => by
    refine Ev.step (fun k => by rw [tinselref22_Assign.l0]) ?_
    simp only [show (i : Int) < s.size by omega, if_true, show (0 : Int) ≤ i by omega, h i (by omega), if_false]
    refine Ev.step (fun k => by rw [tinselref22_Assign.j1]) ?_
    simp only [show (i : Int) < s.size by omega, if_true, show (0 : Int) ≤ i by omega, h i (by omega), if_false, w64s i (by omega), Bool.false_eq_true]
    exact asg_none s hs h n (i + 1) (by omega)
theorem asg_hit (s : ByteArray) (hs : s.size ≤ 1048576) (e : Nat) (he : e < s.size) (hb : bt s (e : Int) = 61) (h : ∀ j : Nat, j < e → ¬ bt s (j : Int) = 61) : ∀ n i, i + n = e →
    Ev (fun k => tinselref22_Assign.l0 k s (s.size : Int) (i : Int)) (if 0 < e then (s.extract 0 e, s.extract (e + 1) s.size, true) else (⟨#[]⟩, ⟨#[]⟩, false))
  | 0, i, hi => by
    obtain rfl : i = e := by omega
    refine Ev.step (fun k => by rw [tinselref22_Assign.l0]) ?_
    simp only [show (i : Int) < s.size by omega, if_true, show (0 : Int) ≤ i by omega, hb]
    refine Ev.step (fun k => by rw [tinselref22_Assign.j1]) ?_
    by_cases h0 : 0 < i
    · simp only [show decide ((i : Int) > 0) = true from decide_eq_true (by omega), show (i : Int) < s.size by omega, if_true, show (0 : Int) ≤ i by omega, w64s i (by omega), show (i : Int) ≤ s.size by omega, show (0 : Int) ≤ ((i + 1 : Nat) : Int) by omega, show ((i + 1 : Nat) : Int) ≤ s.size by omega, h0, Int.toNat_natCast]
      exact Ev.now _
    · simp only [show decide ((i : Int) > 0) = false from decide_eq_false (by omega), show (i : Int) < s.size by omega, if_true, show (0 : Int) ≤ i by omega, hb, h0, if_false, Bool.false_eq_true]
      exact Ev.now _
  | n + 1, i, hi => by
    refine Ev.step (fun k => by rw [tinselref22_Assign.l0]) ?_
    simp only [show (i : Int) < s.size by omega, if_true, show (0 : Int) ≤ i by omega, h i (by omega), if_false]
    refine Ev.step (fun k => by rw [tinselref22_Assign.j1]) ?_
    simp only [show (i : Int) < s.size by omega, if_true, show (0 : Int) ≤ i by omega, h i (by omega), if_false, w64s i (by omega), Bool.false_eq_true]
    exact asg_hit s hs e he hb h n (i + 1) (by omega)
theorem both_assign (s : ByteArray) (hs : s.size ≤ 1048576) : ∃ a b c, args_Assign.f s = some (a, b, c) ∧ Ev (fun k => tinselref22_Assign.f k s) (a, b, c) := by
  have hd := data_length s
  have hc : strings_Cut.f s ⟨#[61]⟩ = some (⟨(Lib.cut s.data.toList [61]).1.toArray⟩, ⟨(Lib.cut s.data.toList [61]).2.1.toArray⟩, (Lib.cut s.data.toList [61]).2.2) := by
    rw [strings_Cut.f, if_pos (by omega)]
  have hbt : ∀ j : Nat, j < s.size → (bt s (j : Int) = 61 ↔ s.data.toList[j]? = some 61) := by
    intro j hj
    obtain ⟨b, hb⟩ : ∃ b, s.data.toList[j]? = some b := ⟨_, List.getElem?_eq_getElem (by omega)⟩
    rw [at_bt s j b hb, b61, hb]
    simp
  rcases Lib.index_spec s.data.toList [61] with ⟨h1, h2⟩ | ⟨i, h1, h2, h3, h4⟩
  · refine ⟨⟨#[]⟩, ⟨#[]⟩, false, ?_, ?_⟩
    · rw [args_Assign.f, hc, Lib.cut, if_neg (by rw [h1]; decide)]
      simp
    · refine asg_none s hs (fun j hj e => ?_) s.size 0 (by omega)
      have := h2 j (by omega)
      rw [(occ_one _ _ _).mpr ((hbt j hj).mp e)] at this
      cases this
  · have hi := (occ_one _ _ _).mp h3
    have hlt : i < s.size := by
      obtain ⟨h, _⟩ := List.getElem?_eq_some_iff.mp hi
      omega
    have hcut : Lib.cut s.data.toList [61] = (s.data.toList.take i, s.data.toList.drop (i + 1), true) := by
      rw [Lib.cut, if_pos (by rw [h1]; omega), h1]
      rfl
    have hno : ∀ j : Nat, j < i → ¬ bt s (j : Int) = 61 := fun j hj e => by
      have := h4 j hj
      rw [(occ_one _ _ _).mpr ((hbt j (by omega)).mp e)] at this
      cases this
    have hev := asg_hit s hs i hlt ((hbt i hlt).mpr hi) hno i 0 (by omega)
    by_cases h0 : 0 < i
    · rw [if_pos h0] at hev
      refine ⟨s.extract 0 i, s.extract (i + 1) s.size, true, ?_, hev⟩
      have e1 : (⟨(s.data.toList.take i).toArray⟩ : ByteArray) = s.extract 0 i := by
        apply same_eq
        rw [ext_data, Go.ByteArray.toList_eq]
        simp
      have e2 : (⟨(s.data.toList.drop (i + 1)).toArray⟩ : ByteArray) = s.extract (i + 1) s.size := by
        apply same_eq
        rw [ext_data, Go.ByteArray.toList_eq, List.take_of_length_le (by simp [hd])]
      rw [args_Assign.f, hc, hcut]
      simp only [Option.bind_some, if_true, e1, e2]
      rw [if_neg]
      intro e
      have := congrArg List.length ((ext_data s 0 i).symm.trans e)
      rw [List.length_take, List.drop_zero, hd, List.length_nil] at this
      omega
    · rw [if_neg h0] at hev
      obtain rfl : i = 0 := by omega
      refine ⟨⟨#[]⟩, ⟨#[]⟩, false, ?_, hev⟩
      rw [args_Assign.f, hc, hcut]
      simp only [Option.bind_some, if_true, List.take_zero]
      rw [if_pos]
      rw [nil_size]
      rfl

theorem texts_l0 (l : List ByteArray) (hl : l.length ≤ 1099511627776) : ∀ n i, i + n = l.length → Ev (fun k => tinselref01_Texts.l0 k l l (l.length : Int) (i : Int)) true
  | 0, i, hi => by
    refine Ev.step (fun k => by rw [tinselref01_Texts.l0]) ?_
    simp only [show ¬ (i : Int) < l.length by omega, if_false]
    exact Ev.now _
  | n + 1, i, hi => by
    refine Ev.step (fun k => by rw [tinselref01_Texts.l0]) ?_
    simp only [show (i : Int) < l.length by omega, if_true, show (0 : Int) ≤ i by omega, w64s i (by omega)]
    exact texts_l0 l hl n (i + 1) (by omega)
theorem texts_self (l : List ByteArray) (hl : l.length ≤ 1099511627776) : Ev (fun k => tinselref01_Texts.f k l l) true := by
  unfold tinselref01_Texts.f
  simp only [if_true]
  exact texts_l0 l hl l.length 0 (by omega)
theorem awake_ev : Ev (fun k => tinsellaw22_awake.f k) true := ⟨60, fun k hk => tinsellaw22_awake.true_ k hk⟩
theorem law_j1 (l : List ByteArray) (x1 x2 : ByteArray) (hl : l.length ≤ 1048576) (h1 : x1.size ≤ 1048576) (h2 : x2.size ≤ 1048576) (b : Bool) (hb : b = false → (∀ x ∈ l, x.size ≤ 2000) ∧ x2.size ≤ 2000) :
    Ev (fun k => tinsellaw22_ArgsReplaces.j1 k l x1 x2 b) true := by
  refine Ev.step (fun k => by rw [tinsellaw22_ArgsReplaces.j1]) ?_
  cases b with
  | true =>
    simp only [if_true]
    exact Ev.bind awake_ev (Ev.now _)
  | false =>
    obtain ⟨hs, h2'⟩ := hb rfl
    obtain ⟨a, c, d, ha, hA⟩ := both_assign x2 h2
    obtain ⟨hR, hF⟩ := both_replace l x1 x2 hl hs h1 h2'
    simp only [Bool.false_eq_true, if_false, Option.bind_some, List.length_nil, Nat.zero_add, List.nil_append, show l.length < 8796093022208 by omega, if_true, ha]
    refine Ev.bind hR ?_
    refine Ev.bind hA ?_
    refine Ev.bind hF ?_
    refine Ev.bind (texts_self _ (by simp; omega)) ?_
    simp only [if_true]
    refine Ev.bind (texts_self _ (by omega)) ?_
    simp only [if_true, beq_self_eq_true]
    exact Ev.bind awake_ev (Ev.now _)
def szs (l : List ByteArray) : Nat := (l.map ByteArray.size).sum
theorem szs_mem : ∀ (l : List ByteArray) (x : ByteArray), x ∈ l → x.size ≤ szs l
  | a :: l, x, hx => by
    have e : szs (a :: l) = a.size + szs l := by simp [szs]
    rcases List.mem_cons.mp hx with rfl | hx
    · omega
    · have := szs_mem l x hx
      omega
theorem law_l0 (l : List ByteArray) (x1 x2 : ByteArray) (hl : l.length ≤ 1048576) (hz : szs l ≤ 1048576) (h1 : x1.size ≤ 1048576) (h2 : x2.size ≤ 1048576) : ∀ n i, i + n = l.length →
    Ev (fun k => tinsellaw22_ArgsReplaces.l0 k l x1 x2 (szs (l.take i) : Int) l (l.length : Int) (i : Int)) true
  | 0, i, hi => by
    obtain rfl : i = l.length := by omega
    refine Ev.step (fun k => by rw [tinsellaw22_ArgsReplaces.l0]) ?_
    simp only [Int.lt_irrefl, if_false, List.take_length]
    by_cases hb : (szs l : Int) > 2000
    · simp only [hb, if_true]
      exact law_j1 l x1 x2 hl h1 h2 true (fun h => by cases h)
    · simp only [hb, if_false]
      refine law_j1 l x1 x2 hl h1 h2 _ (fun h => ⟨fun x hx => ?_, ?_⟩)
      · have := szs_mem l x hx
        omega
      · have := of_decide_eq_false h
        omega
  | n + 1, i, hi => by
    obtain ⟨x, hx⟩ : ∃ x, l[i]? = some x := ⟨_, List.getElem?_eq_getElem (by omega)⟩
    have e : szs (l.take (i + 1)) = szs (l.take i) + x.size := by
      rw [List.take_add_one, hx]
      simp [szs]
    have hle : szs (l.take (i + 1)) ≤ szs l := by
      have : szs l = szs (l.take (i + 1)) + szs (l.drop (i + 1)) := by
        unfold szs
        rw [← List.sum_append, ← List.map_append, List.take_append_drop]
      omega
    refine Ev.step (fun k => by rw [tinsellaw22_ArgsReplaces.l0]) ?_
    simp only [show (i : Int) < l.length by omega, if_true, show (0 : Int) ≤ i by omega, rdOf_at l i x hx, w64s i (by omega), w64 ((szs (l.take i) : Int) + x.size) (by omega) (by omega)]
    rw [show (szs (l.take i) : Int) + x.size = (szs (l.take (i + 1)) : Int) by omega]
    exact law_l0 l x1 x2 hl hz h1 h2 n (i + 1) (by omega)
/-- The law's plain function answers true. -/
theorem ArgsReplaces (l : List ByteArray) (x1 x2 : ByteArray) (hz : (l.map fun n => n.size + 1).sum ≤ 1048576) (h1 : x1.size ≤ 1048576) (h2 : x2.size ≤ 1048576) : ∃ k, tinsellaw22_ArgsReplaces.f k l x1 x2 = some true := by
  have e : ∀ m : List ByteArray, (m.map fun n => n.size + 1).sum = szs m + m.length := by
    intro m
    induction m with
    | nil => rfl
    | cons a m ih =>
      simp only [List.map_cons, List.sum_cons, ih, szs, List.length_cons]
      omega
  rw [e] at hz
  have := law_l0 l x1 x2 (by omega) (by omega) h1 h2 l.length 0 (by omega)
  exact this.rounds
end Go.Proofs.YthnfaipbkocljaaDoor.Pure
