/- The path laws, plain part 2: the names of a path, what is left of them, and how they are written, on both sides. Conditions: the texts are at most 2^20 bytes. -/
import Derived.Test.YtajafgcndalieaaDoorPl0
import Derived.Test.YtajafgcndalieaaDoorPx2
import Derived.Test.YtajafgcndalieaaDoorPx10
import Derived.Test.YtajafgcndalieaaDoorPx4
import Derived.Test.YtajafgcndalieaaDoorPx10
import Derived.Test.YtajafgcndalieaaDoorPx6
namespace Go.Proofs.YtajafgcndalieaaDoor.Pure
set_option linter.unusedSimpArgs false
set_option linter.unusedVariables false
open Go.RowKit Go.Proofs.YtajafgcndalieaaDoor.P Go.Proofs.YtajafgcndalieaaDoorW.PrintWords Go.Proofs.YtajafgcndalieaaDoorW.PrintLast Go.Proofs.YtajafgcndalieaaDoorW.PrintMore

def mk (l : List UInt8) : ByteArray := ⟨l.toArray⟩
theorem mk_data (s : ByteArray) : mk s.data.toList = s := by
  apply ByteArray.ext
  exact Array.ext' (by simp [mk])
theorem data_mk (l : List UInt8) : (mk l).data.toList = l := by simp [mk]
theorem mk_size (l : List UInt8) : (mk l).size = l.length := by simp [mk, ByteArray.size]
theorem mk_toList (l : List UInt8) : (mk l).toList = l := by rw [Go.ByteArray.toList_eq, data_mk]
theorem mk_app (a b : List UInt8) : mk a ++ mk b = mk (a ++ b) := by
  apply ByteArray.ext
  exact Array.ext' (by simp [mk])
theorem one_byte (s : ByteArray) (i : Nat) (h : i < s.size) : s.extract i (i + 1) = mk [s[i]] := by
  have h1 : s.extract i (i + 1) = ⟨(cutB s i (i + 1)).toArray⟩ := extract_cut s i (i + 1) (by omega)
  rw [h1, cutB_snoc s i i h (Nat.le_refl _), cutB_nil]
  rfl
/-- how long names are, with one more each -/
def wt (l : List ByteArray) : Nat := (l.map fun n => n.size + 1).sum
theorem wt_nil : wt [] = 0 := rfl
theorem wt_cons (n : ByteArray) (l : List ByteArray) : wt (n :: l) = n.size + 1 + wt l := by simp [wt]
theorem wt_app (a b : List ByteArray) : wt (a ++ b) = wt a + wt b := by simp [wt]
theorem len_wt (l : List ByteArray) : l.length ≤ wt l := by
  induction l with
  | nil => exact Nat.le_refl _
  | cons n l ih => rw [wt_cons, List.length_cons]; omega

theorem nms_wt : ∀ (r cur : List UInt8), wt ((nms cur r).map mk) ≤ cur.length + r.length + 1
  | [], cur => by
    unfold nms
    split <;> simp [wt, mk_size]
  | c :: r, cur => by
    unfold nms
    split
    · have h := nms_wt r []
      split
      · simp only [List.length_nil, List.length_cons] at h ⊢
        omega
      · rw [List.map_cons, wt_cons, mk_size]
        simp only [List.length_nil, List.length_cons] at h ⊢
        omega
    · have h := nms_wt r (cur ++ [c])
      simp only [List.length_append, List.length_cons, List.length_nil] at h ⊢
      omega
theorem names_wt (s : ByteArray) : wt (namesB s) ≤ s.size + 1 := by
  have := nms_wt s.data.toList []
  rw [len_data] at this
  simp only [List.length_nil, Nat.zero_add] at this
  exact this
theorem names_l0 (s : ByteArray) (hs : s.size ≤ 1048576) : ∀ (n i : Nat) (acc : List ByteArray) (cur : List UInt8), i + n = s.size → acc.length + cur.length ≤ i →
    Ev (fun k => tinselref03_Names.l0 k s acc (mk cur) (i : Int)) (acc ++ (nms cur (s.data.toList.drop i)).map mk)
  | 0, i, acc, cur, hi, hb => by
    refine Ev.step (fun k => by rw [tinselref03_Names.l0]) ?_
    rw [List.drop_eq_nil_of_le (by rw [len_data]; omega)]
    simp only [show ¬ (i : Int) < s.size by omega, if_false, mk_toList, nms]
    by_cases hc : cur = []
    · simp only [hc, if_true, List.map_nil, List.append_nil]
      exact Ev.now _
    · simp only [hc, if_false, show acc.length < 8796093022208 by omega, if_true, List.map_cons, List.map_nil]
      exact Ev.now _
  | n + 1, i, acc, cur, hi, hb => by
    refine Ev.step (fun k => by rw [tinselref03_Names.l0]) ?_
    have hlt : i < s.size := by omega
    rw [drop_at s i hlt]
    simp only [show (i : Int) < s.size by omega, if_true, show (0 : Int) ≤ i by omega, w64s i (by omega), bt_ix s i hlt, mk_toList, nms]
    by_cases hc : s[i] = 47
    · have h47 : ((s[i]).toNat : Int) = 47 := (b47 _).mpr hc
      simp only [h47, hc, if_true]
      by_cases hn : cur = []
      · have := names_l0 s hs n (i + 1) acc [] (by omega) (by subst hn; simp at hb ⊢; omega)
        simp only [hn, if_true]
        exact this
      · have := names_l0 s hs n (i + 1) (acc ++ [mk cur]) [] (by omega) (by
          have := List.length_pos_iff.mpr hn
          simp; omega)
        simp only [hn, if_false, show acc.length < 8796093022208 by omega, if_true, List.map_cons]
        rw [List.append_assoc] at this
        exact this
    · have h47 : ¬ ((s[i]).toNat : Int) = 47 := fun h => hc ((b47 _).mp h)
      have := names_l0 s hs n (i + 1) acc (cur ++ [s[i]]) (by omega) (by simp; omega)
      simp only [h47, hc, if_false, show (i : Int) ≤ ((i + 1 : Nat) : Int) by omega, show ((i + 1 : Nat) : Int) ≤ (s.size : Int) by omega, if_true, Int.toNat_natCast, one_byte s i hlt, mk_size, mk_app, List.length_cons, List.length_nil, show cur.length + (0 + 1) ≤ 9223372036854775807 by omega]
      exact this
theorem names (s : ByteArray) (hs : s.size ≤ 1048576) : Ev (fun k => tinselref03_Names.f k s) (namesB s) := by
  have := names_l0 s hs s.size 0 [] [] (by omega) (by simp)
  exact this

/-- does a path begin with a slash? -/
def absB (s : ByteArray) : Bool := decide (0 < s.size) && bt s 0 == 47
theorem abs_ref (s : ByteArray) : tinselref03_Abs.f s = some (absB s) := by
  unfold tinselref03_Abs.f absB
  by_cases h : 0 < s.size
  · simp only [gt_iff_lt, show (0 : Int) < (s.size : Int) by omega, if_true, h, decide_true, Bool.true_and]
  · simp only [gt_iff_lt, show ¬ (0 : Int) < (s.size : Int) by omega, if_false, h, decide_false, Bool.false_and]
theorem abs_pre (s : ByteArray) (hs : s.size ≤ 9223372036854775800) : strings_HasPrefix.f s (⟨#[47]⟩ : ByteArray) = some (absB s) := by
  unfold strings_HasPrefix.f stringslite_HasPrefix.f absB
  have h1 : (⟨#[47]⟩ : ByteArray).size = 1 := rfl
  rw [h1]
  by_cases h : 0 < s.size
  · simp only [Int.natCast_one, ge_iff_le, show (1 : Int) ≤ (s.size : Int) by omega, if_true, show (0 : Int) ≤ 1 by omega, Option.bind_some, h, decide_true, Bool.true_and]
    have e : s.extract 0 ((1 : Int)).toNat = mk [s[0]] := one_byte s 0 h
    rw [e, mk_toList, show bt s 0 = ((s[0]).toNat : Int) from bt_ix s 0 h, show (⟨#[47]⟩ : ByteArray).toList = [47] from mk_toList [47]]
    congr 1
    rw [Bool.eq_iff_iff]
    simp only [beq_iff_eq, List.cons.injEq, and_true]
    exact (b47 _).symm
  · simp only [Int.natCast_one, ge_iff_le, show ¬ (1 : Int) ≤ (s.size : Int) by omega, if_false, Option.bind_some, h, decide_false, Bool.false_and]
theorem pclean (s : ByteArray) (hs : s.size ≤ 1048576) : path_clean.f s = some (absB s, cnames (absB s) (namesB s)) := by
  have h1 := names_wt s
  have h2 := len_wt (namesB s)
  unfold path_clean.f
  rw [if_pos (by omega), if_pos (by omega), abs_pre s (by omega)]
  rfl

theorem rdOf_at (l : List ByteArray) (i : Nat) (h : i < l.length) : rdOf ByteArray.empty l (i : Int) = l[i] := by
  simp [rdOf, List.getD_eq_getElem?_getD, List.getElem?_eq_getElem h]
theorem drop_row (l : List ByteArray) (i : Nat) (h : i < l.length) : l.drop i = rdOf ByteArray.empty l (i : Int) :: l.drop (i + 1) := by
  rw [List.drop_eq_getElem_cons h, rdOf_at l i h]
theorem rdOf_last (l : List ByteArray) (h : l ≠ []) : rdOf ByteArray.empty l ((l.length - 1 : Nat) : Int) = l.getLast?.getD default := by
  have hp := List.length_pos_iff.mpr h
  rw [rdOf_at l _ (by omega), List.getLast?_eq_getElem?, List.getElem?_eq_getElem (by omega)]
  rfl
theorem cleans_l0 (abs : Bool) (l : List ByteArray) (hl : l.length ≤ 1099511627776) : ∀ (n i : Nat) (acc : List ByteArray), i + n = l.length → acc.length ≤ i →
    Ev (fun k => tinselref03_clean.l0 k abs acc l (l.length : Int) (i : Int)) ((l.drop i).foldl (cstep abs) acc)
  | 0, i, acc, hi, hb => by
    refine Ev.step (fun k => by rw [tinselref03_clean.l0]) ?_
    rw [List.drop_eq_nil_of_le (by omega)]
    simp only [show ¬ (i : Int) < l.length by omega, if_false, List.foldl_nil]
    exact Ev.now _
  | n + 1, i, acc, hi, hb => by
    refine Ev.step (fun k => by rw [tinselref03_clean.l0]) ?_
    have hlt : i < l.length := by omega
    rw [drop_row l i hlt, List.foldl_cons]
    have ih := fun acc' h => cleans_l0 abs l hl n (i + 1) acc' (by omega) h
    obtain ⟨x, hx⟩ : ∃ x, rdOf ByteArray.empty l (i : Int) = x := ⟨_, rfl⟩
    simp only [show (i : Int) < l.length by omega, if_true, show (0 : Int) ≤ i by omega, w64s i (by omega), hx]
    by_cases h1 : x.toList = [46]
    · have e : cstep abs acc x = acc := by unfold cstep; rw [if_pos h1]
      rw [e]
      simp only [h1, if_true]
      exact ih acc (by omega)
    · by_cases h2 : x.toList = [46, 46]
      · simp only [if_neg h1, if_pos h2]
        by_cases hn : acc = []
        · subst hn
          simp only [List.length_nil, Int.natCast_zero, gt_iff_lt, show ¬ (0 : Int) < 0 by omega, if_false]
          refine Ev.step (fun k => by rw [tinselref03_clean.j1]) ?_
          have e : cstep abs [] x = if abs = true then [] else [x] := by
            unfold cstep
            rw [if_neg h1, if_neg (by simpa using h2), if_neg (by simp)]
            rfl
          rw [e]
          cases abs
          · simp only [Bool.false_eq_true, if_false, List.length_nil, show (0 : Nat) < 8796093022208 by omega, if_true, List.nil_append, w64s i (by omega)]
            exact ih [x] (by simp)
          · simp only [Bool.false_eq_true, if_false, if_true, w64s i (by omega)]
            exact ih [] (by simp)
        · have hp := List.length_pos_iff.mpr hn
          have hw : wrap64 ((acc.length : Int) - 1) = ((acc.length - 1 : Nat) : Int) := by unfold wrap64; omega
          simp only [gt_iff_lt, show (0 : Int) < (acc.length : Int) by omega, if_true, hw, show (0 : Int) ≤ ((acc.length - 1 : Nat) : Int) by omega, show ((acc.length - 1 : Nat) : Int) < (acc.length : Int) by omega, rdOf_last acc hn]
          refine Ev.step (fun k => by rw [tinselref03_clean.j1]) ?_
          by_cases h3 : (acc.getLast?.getD default).toList = [46, 46]
          · have e : cstep abs acc x = if abs = true then acc else acc ++ [x] := by
              unfold cstep
              rw [if_neg h1, if_neg (by simpa using h2), if_neg (fun hh => hh.2 h3)]
            rw [e]
            simp only [h3, bne_self_eq_false, Bool.false_eq_true, if_false]
            cases abs
            · simp only [Bool.false_eq_true, if_false, show acc.length < 8796093022208 by omega, if_true, w64s i (by omega)]
              exact ih (acc ++ [x]) (by simp; omega)
            · simp only [if_true, w64s i (by omega)]
              exact ih acc (by omega)
          · have e : cstep abs acc x = acc.dropLast := by
              unfold cstep
              rw [if_neg h1, if_neg (by simpa using h2), if_pos ⟨hn, h3⟩]
            rw [e]
            simp only [bne_iff_ne, ne_eq, h3, not_false_eq_true, if_true, hw, show (0 : Int) ≤ ((acc.length - 1 : Nat) : Int) by omega, show ((acc.length - 1 : Nat) : Int) ≤ (acc.length : Int) by omega, Int.toNat_natCast, ← List.dropLast_eq_take, w64s i (by omega)]
            exact ih acc.dropLast (by simp; omega)
      · have e : cstep abs acc x = acc ++ [x] := by
          unfold cstep
          rw [if_neg h1, if_pos h2]
        rw [e]
        simp only [h1, h2, if_false, show acc.length < 8796093022208 by omega, if_true]
        exact ih _ (by simp; omega)
theorem cleans (abs : Bool) (l : List ByteArray) (hl : l.length ≤ 1099511627776) : Ev (fun k => tinselref03_clean.f k abs l) (cnames abs l) := by
  have := cleans_l0 abs l hl l.length 0 [] (by omega) (by simp)
  simpa [tinselref03_clean.f, cnames] using this
theorem wt_dropLast (l : List ByteArray) : wt l.dropLast ≤ wt l := by
  rcases List.eq_nil_or_concat l with rfl | ⟨a, b, rfl⟩
  · exact Nat.le_refl _
  · rw [List.concat_eq_append, List.dropLast_concat, wt_app]
    omega
theorem cstep_wt (abs : Bool) (out : List ByteArray) (n : ByteArray) : wt (cstep abs out n) ≤ wt out + (n.size + 1) := by
  have h1 := wt_dropLast out
  have h2 : wt (out ++ [n]) = wt out + (n.size + 1) := by rw [wt_app, wt_cons, wt_nil]
  unfold cstep
  repeat' split
  all_goals omega
theorem cnames_wt (abs : Bool) (l : List ByteArray) : wt (cnames abs l) ≤ wt l := by
  unfold cnames
  suffices h : ∀ (l out : List ByteArray), wt (l.foldl (cstep abs) out) ≤ wt out + wt l by simpa [wt_nil] using h l []
  intro l
  induction l with
  | nil => intro out; simp [wt_nil]
  | cons n l ih =>
    intro out
    have := ih (cstep abs out n)
    have := cstep_wt abs out n
    simp only [List.foldl_cons, wt_cons]
    omega
end Go.Proofs.YtajafgcndalieaaDoor.Pure
