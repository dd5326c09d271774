/- args, plain: put, Replace. -/
import Derived.Test.YthnfaipbkocljaaDoorAr0
import Derived.Test.YthnfaipbkocljaaDoorPx3
import Derived.Test.YthnfaipbkocljaaDoorPx2
namespace Go.Proofs.YthnfaipbkocljaaDoor.Pure
set_option linter.unusedSimpArgs false
set_option linter.unusedVariables false
open Go.RowKit Go.Proofs.YthnfaipbkocljaaDoor.P Go.Proofs.YthnfaipbkocljaaDoorW.PrintWords Go.Proofs.YthnfaipbkocljaaDoorW.PrintLast Go.Proofs.YthnfaipbkocljaaDoorW.PrintMore

def ints (l : List UInt8) : List Int := l.map fun b => (b.toNat : Int)
theorem str_ints (l : List UInt8) : strOfNums (ints l) = ⟨l.toArray⟩ := by
  unfold strOfNums ints
  rw [List.map_map]
  congr 2
  refine (List.map_congr_left fun b _ => ?_).trans (List.map_id l)
  simp
theorem ext_data (s : ByteArray) (i j : Nat) : (s.extract i j).toList = (s.data.toList.drop i).take (j - i) := by
  rw [Go.ByteArray.toList_eq, ByteArray.data_extract, Array.toList_extract, List.extract_eq_take_drop]
theorem pre_iff (o l : List UInt8) : o.isPrefixOf l = true ↔ l.take o.length = o := by
  rw [List.isPrefixOf_iff_prefix, List.prefix_iff_eq_take]
  exact eq_comm
def rp (x1 x2 : ByteArray) (t : List UInt8) : List UInt8 := if x1.data.toList = [] then t else rep x1.data.toList x2.data.toList t
theorem rp_nil (x1 x2 : ByteArray) : rp x1 x2 [] = [] := by
  unfold rp
  split
  · rfl
  · rename_i h
    exact rep_nil _ _ h
theorem put_l0 (s x1 x2 : ByteArray) (hs : s.size ≤ 2000) (h1 : x1.size ≤ 1048576) (h2 : x2.size ≤ 2000) : ∀ n i (acc : List Int), s.size - i ≤ n → i ≤ s.size → acc.length ≤ 2001 * i →
    Ev (fun k => tinselref22_put.l0 k s x1 x2 acc (i : Int)) (strOfNums (acc ++ ints (rp x1 x2 (s.data.toList.drop i)))) := by
  have hd := data_length s
  have hd1 := data_length x1
  have hd2 := data_length x2
  intro n
  induction n with
  | zero =>
    intro i acc hn hi ha
    obtain rfl : i = s.size := by omega
    refine Ev.step (fun k => by rw [tinselref22_put.l0]) ?_
    simp only [Int.lt_irrefl, if_false]
    rw [List.drop_eq_nil_of_le (by omega), rp_nil]
    simp only [ints, List.map_nil, List.append_nil]
    exact Ev.now _
  | succ n ih =>
    intro i acc hn hi ha
    by_cases hlt : i < s.size
    · obtain ⟨b, hb⟩ : ∃ b, s.data.toList[i]? = some b := ⟨_, List.getElem?_eq_getElem (by omega)⟩
      have hdrop : s.data.toList.drop i = b :: s.data.toList.drop (i + 1) := Lib.drop_at hb
      have hbt := at_bt s i b hb
      refine Ev.step (fun k => by rw [tinselref22_put.l0]) ?_
      have hacc : acc.length < 140737488355328 := by omega
      have hmiss : rp x1 x2 (s.data.toList.drop i) = b :: rp x1 x2 (s.data.toList.drop (i + 1)) → Ev (fun k => tinselref22_put.l0 k s x1 x2 (acc ++ [bt s (i : Int)]) (wrap64 ((i : Int) + 1))) (strOfNums (acc ++ ints (rp x1 x2 (s.data.toList.drop i)))) := by
        intro e
        rw [e, hbt, w64s i (by omega)]
        have := ih (i + 1) (acc ++ [(b.toNat : Int)]) (by omega) (by omega) (by simp; omega)
        rw [List.append_assoc] at this
        exact this
      by_cases h0 : x1.toList = []
      · have h0' : x1.data.toList = [] := by rwa [Go.ByteArray.toList_eq] at h0
        simp only [show (i : Int) < s.size by omega, if_true, h0, show (0 : Int) ≤ i by omega, hacc]
        exact hmiss (by rw [rp, rp, if_pos h0', if_pos h0', hdrop])
      · have h0' : x1.data.toList ≠ [] := by rwa [Go.ByteArray.toList_eq] at h0
        have hp1 : 0 < x1.size := by rw [← hd1]; exact List.length_pos_iff.mpr h0'
        simp only [show (i : Int) < s.size by omega, if_true, h0, if_false, show (0 : Int) ≤ i by omega, hacc, w64 ((s.size : Int) - i) (by omega) (by omega), w64 ((i : Int) + x1.size) (by omega) (by omega)]
        by_cases hroom : (s.size : Int) - i ≥ x1.size
        · simp only [hroom, if_true, show (i : Int) ≤ (i : Int) + x1.size by omega, show (i : Int) + x1.size ≤ s.size by omega]
          have eN : ((i : Int) + x1.size).toNat = i + x1.size := by omega
          rw [Int.toNat_natCast, eN, ext_data, show i + x1.size - i = x1.data.toList.length by omega, Go.ByteArray.toList_eq x1]
          by_cases hp : x1.data.toList.isPrefixOf (s.data.toList.drop i) = true
          · simp only [(pre_iff _ _).mp hp, if_true, show acc.length + x2.size < 140737488355328 by omega]
            have := ih (i + x1.size) (acc ++ bytesOf x2) (by omega) (by omega) (by rw [List.length_append, bytesOf_length]; omega)
            have e : rp x1 x2 (s.data.toList.drop i) = x2.data.toList ++ rp x1 x2 (s.data.toList.drop (i + x1.size)) := by
              rw [rp, rp, if_neg h0', if_neg h0', rep_hit _ _ _ h0' hp, List.drop_drop, hd1]
            rw [e]
            rw [List.append_assoc] at this
            rw [show ints (x2.data.toList ++ rp x1 x2 (s.data.toList.drop (i + x1.size))) = bytesOf x2 ++ ints (rp x1 x2 (s.data.toList.drop (i + x1.size))) by simp [ints, bytesOf]]
            exact this
          · have hp' : x1.data.toList.isPrefixOf (s.data.toList.drop i) = false := Bool.eq_false_iff.2 hp
            simp only [show ¬ (s.data.toList.drop i).take x1.data.toList.length = x1.data.toList from fun e => hp ((pre_iff _ _).mpr e), if_false]
            exact hmiss (by rw [rp, rp, if_neg h0', if_neg h0', hdrop, rep_miss _ _ _ _ h0' (by rw [← hdrop]; exact hp')])
        · simp only [hroom, if_false]
          refine hmiss ?_
          rw [rp, rp, if_neg h0', if_neg h0', hdrop, rep_miss _ _ _ _ h0' ?_]
          rw [← hdrop]
          refine Bool.eq_false_iff.2 fun hp => ?_
          have := congrArg List.length ((pre_iff _ _).mp hp)
          simp only [List.length_take, List.length_drop] at this
          omega
    · obtain rfl : i = s.size := by omega
      exact ih s.size acc (by omega) (by omega) ha
theorem put_f (s x1 x2 : ByteArray) (hs : s.size ≤ 2000) (h1 : x1.size ≤ 1048576) (h2 : x2.size ≤ 2000) : Ev (fun k => tinselref22_put.f k s x1 x2) ⟨(rp x1 x2 s.data.toList).toArray⟩ := by
  unfold tinselref22_put.f
  have := put_l0 s x1 x2 hs h1 h2 s.size 0 [] (by omega) (by omega) (by simp)
  simpa [str_ints] using this
def rpB (x1 x2 s : ByteArray) : ByteArray := ⟨(rp x1 x2 s.data.toList).toArray⟩
theorem replaceAll_f (s x1 x2 : ByteArray) (hs : s.size ≤ 2000) (h1 : x1.size ≤ 1048576) (h2 : x2.size ≤ 2000) (h0 : ¬ x1.toList = []) : strings_ReplaceAll.f s x1 x2 = some (rpB x1 x2 s) := by
  have h0' : x1.data.toList ≠ [] := by rwa [Go.ByteArray.toList_eq] at h0
  have hp1 : 1 ≤ x1.size := by rw [← data_length]; exact List.length_pos_iff.mpr h0'
  have hc := Lib.countB_le x1 hp1 s.size s (Nat.le_refl _)
  have hm : Lib.countB s x1 * x2.size ≤ 2000 * 2000 := Nat.mul_le_mul (by omega) h2
  rw [strings_ReplaceAll.f, if_pos ⟨by omega, hp1, by omega⟩, replaceAll_rep _ _ _ h0', rpB, rp, if_neg h0']
theorem rdOf_at (l : List ByteArray) (i : Nat) (x : ByteArray) (h : l[i]? = some x) : rdOf ByteArray.empty l (i : Int) = x := by simp [rdOf, List.getD_eq_getElem?_getD, h]
theorem ref_l0 (l : List ByteArray) (x1 x2 : ByteArray) (hl : l.length ≤ 1048576) (hs : ∀ x ∈ l, x.size ≤ 2000) (h1 : x1.size ≤ 1048576) (h2 : x2.size ≤ 2000) : ∀ n i (acc : List ByteArray), i + n = l.length → acc.length = i →
    Ev (fun k => tinselref22_Replace.l0 k x1 x2 acc l (l.length : Int) (i : Int)) (acc ++ (l.drop i).map (rpB x1 x2))
  | 0, i, acc, hi, ha => by
    refine Ev.step (fun k => by rw [tinselref22_Replace.l0]) ?_
    simp only [show ¬ (i : Int) < l.length by omega, if_false]
    rw [List.drop_eq_nil_of_le (by omega), List.map_nil, List.append_nil]
    exact Ev.now _
  | n + 1, i, acc, hi, ha => by
    obtain ⟨x, hx⟩ : ∃ x, l[i]? = some x := ⟨_, List.getElem?_eq_getElem (by omega)⟩
    refine Ev.step (fun k => by rw [tinselref22_Replace.l0]) ?_
    simp only [show (i : Int) < l.length by omega, if_true, show (0 : Int) ≤ i by omega, rdOf_at l i x hx, w64s i (by omega), show acc.length < 8796093022208 by omega]
    refine Ev.bind (put_f x x1 x2 (hs x (List.mem_of_getElem? hx)) h1 h2) ?_
    have := ref_l0 l x1 x2 hl hs h1 h2 n (i + 1) (acc ++ [rpB x1 x2 x]) (by omega) (by simp [ha])
    rw [Lib.drop_at hx, List.map_cons]
    rw [List.append_assoc] at this
    exact this
theorem rpl_l0 (l : List ByteArray) (x1 x2 : ByteArray) (hl : l.length ≤ 1048576) (hs : ∀ x ∈ l, x.size ≤ 2000) (h1 : x1.size ≤ 1048576) (h2 : x2.size ≤ 2000) : ∀ n i (acc : List ByteArray), i + n = l.length → acc.length = i →
    Ev (fun k => args_Replace.l0 k x1 x2 acc l (l.length : Int) (i : Int)) (acc ++ (l.drop i).map (rpB x1 x2))
  | 0, i, acc, hi, ha => by
    refine Ev.step (fun k => by rw [args_Replace.l0]) ?_
    simp only [show ¬ (i : Int) < l.length by omega, if_false]
    rw [List.drop_eq_nil_of_le (by omega), List.map_nil, List.append_nil]
    exact Ev.now _
  | n + 1, i, acc, hi, ha => by
    obtain ⟨x, hx⟩ : ∃ x, l[i]? = some x := ⟨_, List.getElem?_eq_getElem (by omega)⟩
    have hx2 := hs x (List.mem_of_getElem? hx)
    have next := rpl_l0 l x1 x2 hl hs h1 h2 n (i + 1) (acc ++ [rpB x1 x2 x]) (by omega) (by simp [ha])
    rw [List.append_assoc] at next
    refine Ev.step (fun k => by rw [args_Replace.l0]) ?_
    simp only [show (i : Int) < l.length by omega, if_true, show (0 : Int) ≤ i by omega, rdOf_at l i x hx, w64s i (by omega), show acc.length < 8796093022208 by omega]
    rw [Lib.drop_at hx, List.map_cons]
    by_cases h0 : x1.toList = []
    · simp only [h0, if_true]
      have e : rpB x1 x2 x = x := by
        have h0' : x1.data.toList = [] := by rwa [Go.ByteArray.toList_eq] at h0
        rw [rpB, rp, if_pos h0']
      rw [e] at next ⊢
      exact next
    · simp only [h0, if_false, replaceAll_f x x1 x2 hx2 h1 h2 h0, Option.bind_some]
      exact next
theorem both_replace (l : List ByteArray) (x1 x2 : ByteArray) (hl : l.length ≤ 1048576) (hs : ∀ x ∈ l, x.size ≤ 2000) (h1 : x1.size ≤ 1048576) (h2 : x2.size ≤ 2000) :
    Ev (fun k => args_Replace.f k l x1 x2) (l.map (rpB x1 x2)) ∧ Ev (fun k => tinselref22_Replace.f k l x1 x2) (l.map (rpB x1 x2)) :=
  ⟨rpl_l0 l x1 x2 hl hs h1 h2 l.length 0 [] (by omega) rfl, ref_l0 l x1 x2 hl hs h1 h2 l.length 0 [] (by omega) rfl⟩
end Go.Proofs.YthnfaipbkocljaaDoor.Pure
