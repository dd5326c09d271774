/- The path laws, plain part 1: cutting slashes off, the last slash; Base and Dir on both sides. -/
import Derived.Test.YtajafgcndalieaaDoorPx13
import Derived.Test.YtajafgcndalieaaDoorPx13
import Derived.Test.YtajafgcndalieaaDoorPx8
import Derived.Test.YtajafgcndalieaaDoorPx13
namespace Go.Proofs.YtajafgcndalieaaDoor.Pure
set_option linter.unusedSimpArgs false
set_option linter.unusedVariables false
open Go.RowKit Go.Proofs.YtajafgcndalieaaDoor.P Go.Proofs.YtajafgcndalieaaDoorW.PrintWords Go.Proofs.YtajafgcndalieaaDoorW.PrintLast Go.Proofs.YtajafgcndalieaaDoorW.PrintMore

theorem w64 (n : Int) (h : -9223372036854775808 ≤ n) (h' : n ≤ 9223372036854775807) : wrap64 n = n := by unfold wrap64; omega
theorem w64s (i : Nat) (h : (i : Int) ≤ 9223372036854775806) : wrap64 ((i : Int) + 1) = ((i + 1 : Nat) : Int) := by unfold wrap64; omega
theorem w64p (i : Nat) (h : (i : Int) ≤ 9223372036854775806) : wrap64 (((i + 1 : Nat) : Int) - 1) = (i : Int) := by unfold wrap64; omega

/-- how many bytes stand up to the last one that is no slash -/
def tr (s : ByteArray) : Nat → Nat
  | 0 => 0
  | i + 1 => if bt s (i : Int) = 47 then tr s i else i + 1
/-- the place behind the last slash among the first so many bytes -/
def li (s : ByteArray) : Nat → Nat
  | 0 => 0
  | i + 1 => if bt s (i : Int) = 47 then i + 1 else li s i
theorem tr_le (s : ByteArray) : ∀ n, tr s n ≤ n
  | 0 => Nat.le_refl _
  | i + 1 => by
    have := tr_le s i
    simp only [tr]
    split <;> omega
theorem li_le (s : ByteArray) : ∀ n, li s n ≤ n
  | 0 => Nat.le_refl _
  | i + 1 => by
    have := li_le s i
    simp only [li]
    split <;> omega
theorem size_take (s : ByteArray) (n : Nat) (h : n ≤ s.size) : (s.extract 0 n).size = n := by simp; omega
theorem bt_take (s : ByteArray) (n i : Nat) (h : n ≤ s.size) (hi : i < n) : bt (s.extract 0 n) (i : Int) = bt s (i : Int) := by
  rw [bt_ix _ i (by rw [size_take s n h]; exact hi), bt_ix s i (by omega)]
  simp [ByteArray.getElem_extract]
theorem take_take (s : ByteArray) (n m : Nat) (h : m ≤ n) : (s.extract 0 n).extract 0 m = s.extract 0 m := by
  rw [ByteArray.extract_extract]
  congr 1 <;> omega
theorem take_all (s : ByteArray) : s.extract 0 s.size = s := ByteArray.extract_zero_size
theorem tr_take (s : ByteArray) (n : Nat) (h : n ≤ s.size) : ∀ m, m ≤ n → tr (s.extract 0 n) m = tr s m
  | 0, _ => rfl
  | m + 1, hm => by
    simp only [tr]
    rw [bt_take s n m h (by omega), tr_take s n h m (by omega)]
theorem li_take (s : ByteArray) (n : Nat) (h : n ≤ s.size) : ∀ m, m ≤ n → li (s.extract 0 n) m = li s m
  | 0, _ => rfl
  | m + 1, hm => by
    simp only [li]
    rw [bt_take s n m h (by omega), li_take s n h m (by omega)]
theorem tr_end (s : ByteArray) : ∀ n, 0 < tr s n → bt s ((tr s n - 1 : Nat) : Int) ≠ 47
  | 0, h => by simp [tr] at h
  | i + 1, h => by
    simp only [tr] at h ⊢
    split
    · rename_i h1
      rw [if_pos h1] at h
      exact tr_end s i h
    · rename_i h1
      simpa using h1
theorem tr_slash (s : ByteArray) : ∀ n i, tr s n ≤ i → i < n → bt s (i : Int) = 47
  | 0, i, _, h => by omega
  | n + 1, i, h1, h2 => by
    simp only [tr] at h1
    split at h1
    · rename_i hb
      by_cases e : i = n
      · subst e; exact hb
      · exact tr_slash s n i h1 (by omega)
    · omega
theorem at_bt (s : ByteArray) (i : Nat) (b : UInt8) (h : s.data.toList[i]? = some b) : bt s (i : Int) = (b.toNat : Int) := by
  obtain ⟨hl, hb⟩ := List.getElem?_eq_some_iff.mp h
  rw [bt_ix s i (by rw [← len_data]; exact hl), ← hb]
  rfl
theorem b47 (b : UInt8) : (b.toNat : Int) = 47 ↔ b = 47 := by
  constructor
  · intro h
    exact UInt8.toNat_inj.mp (by have h47 : (47 : UInt8).toNat = 47 := rfl; omega)
  · rintro rfl
    rfl
theorem trimR (s : ByteArray) : (⟨(Lib.trimRightB s.data.toList 47).toArray⟩ : ByteArray) = s.extract 0 (tr s s.size) := by
  rw [Lib.trimRightB_take s.data.toList 47 (tr s s.size) (by rw [len_data]; exact tr_le s _) ?_ ?_]
  · exact (Lib.extract_upto s _).symm
  · intro j b hj hb
    have hl := (List.getElem?_eq_some_iff.mp hb).1
    rw [len_data] at hl
    exact (b47 b).mp ((at_bt s j b hb).symm.trans (tr_slash s s.size j hj hl))
  · intro b hp hb e
    exact tr_end s s.size hp ((at_bt s _ b hb).trans ((b47 b).mpr e))
theorem dw_nil {α : Type} (p : α → Bool) : ∀ l : List α, l.dropWhile p = [] → ∀ x ∈ l, p x = true
  | [], _, x, hx => by cases hx
  | a :: l, h, x, hx => by
    by_cases ha : p a = true
    · rw [List.dropWhile_cons_of_pos ha] at h
      rcases List.mem_cons.mp hx with rfl | hx
      · exact ha
      · exact dw_nil p l h x hx
    · rw [List.dropWhile_cons_of_neg ha] at h
      cases h
theorem tr_zero (s : ByteArray) : tr s s.size = 0 ↔ Lib.trimB s.data.toList 47 = [] := by
  have hR : Lib.trimRightB s.data.toList 47 = s.data.toList.take (tr s s.size) := by
    have := congrArg (fun z : ByteArray => z.data.toList) (trimR s)
    rw [Lib.extract_upto] at this
    exact this
  unfold Lib.trimB Lib.trimLeftB
  rw [hR]
  constructor
  · intro h
    rw [h]
    rfl
  · intro h
    by_cases hp : 0 < tr s s.size
    · exfalso
      have hle := tr_le s s.size
      have hl : tr s s.size - 1 < s.data.toList.length := by rw [len_data]; omega
      have hm : s.data.toList[tr s s.size - 1] ∈ s.data.toList.take (tr s s.size) := by
        rw [List.mem_take_iff_getElem]
        exact ⟨tr s s.size - 1, by omega, rfl⟩
      have hall := dw_nil _ _ h _ hm
      have hb := at_bt s (tr s s.size - 1) _ (List.getElem?_eq_getElem hl)
      have h47 : s.data.toList[tr s s.size - 1] = 47 := by simpa using hall
      rw [h47] at hb
      exact tr_end s s.size hp hb
    · omega

theorem bares (s : ByteArray) (hs : s.size ≤ 9223372036854775800) : ∀ n, n ≤ s.size → Ev (fun k => tinselref03_bare.l0 k (s.extract 0 n)) (s.extract 0 (tr s n))
  | 0, _ => by
    refine Ev.step (fun k => by rw [tinselref03_bare.l0]) ?_
    simp only [size_take s 0 (by omega), tr, Int.natCast_zero, gt_iff_lt, show ¬ (0 : Int) < 0 by omega, if_false]
    exact Ev.now _
  | n + 1, hn => by
    refine Ev.step (fun k => by rw [tinselref03_bare.l0]) ?_
    simp only [size_take s (n + 1) hn, gt_iff_lt, w64p n (by omega), show (0 : Int) < ((n + 1 : Nat) : Int) by omega, show (0 : Int) ≤ (n : Int) by omega, show (n : Int) < ((n + 1 : Nat) : Int) by omega, show (n : Int) ≤ ((n + 1 : Nat) : Int) by omega, if_true, bt_take s (n + 1) n hn (by omega), tr, Int.toNat_natCast, take_take s (n + 1) n (by omega)]
    split
    · exact bares s hs n (by omega)
    · exact Ev.now _
theorem bare (s : ByteArray) (hs : s.size ≤ 9223372036854775800) : Ev (fun k => tinselref03_bare.f k s) (s.extract 0 (tr s s.size)) := by
  have := bares s hs s.size (Nat.le_refl _)
  rw [take_all] at this
  exact this
theorem lasts (s : ByteArray) (hs : s.size ≤ 9223372036854775800) : ∀ n i, i + n = s.size → Ev (fun k => tinselref03_last.l0 k s (li s i : Int) (i : Int)) (li s s.size : Int)
  | 0, i, h => by
    refine Ev.step (fun k => by rw [tinselref03_last.l0]) ?_
    obtain rfl : i = s.size := by omega
    simp only [show ¬ (s.size : Int) < s.size by omega, if_false]
    exact Ev.now _
  | n + 1, i, h => by
    refine Ev.step (fun k => by rw [tinselref03_last.l0]) ?_
    simp only [show (i : Int) < s.size by omega, if_true, show (0 : Int) ≤ i by omega, w64s i (by omega)]
    have ih := lasts s hs n (i + 1) (by omega)
    simp only [li] at ih
    split
    · rename_i hb
      rw [if_pos hb] at ih
      exact ih
    · rename_i hb
      rw [if_neg hb] at ih
      exact ih
theorem last (s : ByteArray) (hs : s.size ≤ 9223372036854775800) : Ev (fun k => tinselref03_last.f k s) (li s s.size : Int) := lasts s hs s.size 0 (by omega)
theorem libs (s : ByteArray) (hs : s.size ≤ 9223372036854775800) : ∀ n, n ≤ s.size → Ev (fun k => bytealg_LastIndexByteString.l0 k s 47 ((n : Int) - 1)) ((li s n : Int) - 1)
  | 0, _ => by
    refine Ev.step (fun k => by rw [bytealg_LastIndexByteString.l0]) ?_
    simp only [Int.natCast_zero, ge_iff_le, show ¬ (0 : Int) ≤ 0 - 1 by omega, if_false, li]
    exact Ev.now _
  | n + 1, hn => by
    refine Ev.step (fun k => by rw [bytealg_LastIndexByteString.l0]) ?_
    simp only [show ((n + 1 : Nat) : Int) - 1 = (n : Int) by omega, ge_iff_le, show (0 : Int) ≤ (n : Int) by omega, show (n : Int) < (s.size : Int) by omega, if_true, w64 ((n : Int) - 1) (by omega) (by omega), li]
    split
    · rw [show ((n + 1 : Nat) : Int) - 1 = (n : Int) by omega]
      exact Ev.now _
    · exact libs s hs n (by omega)
theorem lastIdx (s : ByteArray) (hs : s.size ≤ 9223372036854775800) : Ev (fun k => strings_LastIndexByte.f k s 47) ((li s s.size : Int) - 1) := by
  unfold strings_LastIndexByte.f bytealg_LastIndexByteString.f
  rw [w64 _ (by omega) (by omega)]
  exact Ev.bind (libs s hs s.size (Nat.le_refl _)) (Ev.now _)
theorem one47 : oneB (⟨#[47]⟩ : ByteArray) = some 47 := by decide
theorem trimRight (s : ByteArray) (hs : s.size ≤ 9223372036854775800) : strings_TrimRight.f s (⟨#[47]⟩ : ByteArray) = some (s.extract 0 (tr s s.size)) := by
  unfold strings_TrimRight.f
  rw [one47, Option.bind_some, if_pos (by omega), trimR]
theorem kinds (s : ByteArray) (hs : s.size ≤ 9223372036854775800) : path_kind.f s = some (if s.toList = [] then 0 else if tr s s.size = 0 then 1 else 2) := by
  unfold path_kind.f strings_Trim.f
  by_cases h0 : s.toList = []
  · rw [if_pos h0, if_pos h0]
  · rw [if_neg h0, if_neg h0, one47, Option.bind_some, if_pos (by omega), Option.bind_some]
    by_cases h1 : tr s s.size = 0
    · rw [if_pos h1, if_pos]
      rw [Go.ByteArray.toList_eq]
      exact (tr_zero s).mp h1
    · rw [if_neg h1, if_neg]
      rw [Go.ByteArray.toList_eq]
      exact fun e => h1 ((tr_zero s).mpr e)

theorem nil_size (s : ByteArray) : s.toList = [] ↔ s.size = 0 := by
  rw [Go.ByteArray.toList_eq, ← len_data, List.length_eq_zero_iff]
theorem drop_size (s : ByteArray) (i : Nat) : (s.extract i s.size).size = s.size - i := by simp
theorem same_eq {a b : ByteArray} (h : a.toList = b.toList) : a = b := by
  rw [Go.ByteArray.toList_eq, Go.ByteArray.toList_eq] at h
  exact ByteArray.ext (Array.ext' h)
theorem hasSuf (u a : ByteArray) (hu : u.size ≤ 9223372036854775800) : stringslite_HasSuffix.f u a = some (if a.size ≤ u.size then (u.extract (u.size - a.size) u.size).toList == a.toList else false) := by
  unfold stringslite_HasSuffix.f
  by_cases h : a.size ≤ u.size
  · have hw : wrap64 ((u.size : Int) - (a.size : Int)) = ((u.size - a.size : Nat) : Int) := by unfold wrap64; omega
    simp only [ge_iff_le, show (a.size : Int) ≤ u.size by omega, if_true, hw, show (0 : Int) ≤ ((u.size - a.size : Nat) : Int) by omega, show ((u.size - a.size : Nat) : Int) ≤ (u.size : Int) by omega, Int.toNat_natCast, h]
  · simp only [ge_iff_le, show ¬ (a.size : Int) ≤ u.size by omega, if_false, h]
/-- what is left of a name without a suffix -/
def unsuf (u a : ByteArray) : ByteArray := if a.size < u.size ∧ (u.extract (u.size - a.size) u.size).toList = a.toList then u.extract 0 (u.size - a.size) else u
theorem cutSuf (u a : ByteArray) (hu : u.size ≤ 9223372036854775800) (hne : ¬ u.toList = a.toList) : strings_TrimSuffix.f u a = some (unsuf u a) := by
  unfold strings_TrimSuffix.f stringslite_TrimSuffix.f
  rw [hasSuf u a hu, Option.bind_some]
  unfold unsuf
  by_cases h : a.size < u.size
  · have hw : wrap64 ((u.size : Int) - (a.size : Int)) = ((u.size - a.size : Nat) : Int) := by unfold wrap64; omega
    rw [if_pos (show a.size ≤ u.size by omega)]
    by_cases h2 : (u.extract (u.size - a.size) u.size).toList = a.toList
    · simp only [beq_iff_eq, h2, if_true, hw, show (0 : Int) ≤ ((u.size - a.size : Nat) : Int) by omega, show ((u.size - a.size : Nat) : Int) ≤ (u.size : Int) by omega, Int.toNat_natCast, h, and_self, Option.bind_some]
    · simp only [beq_iff_eq, h2, if_false, and_false, Option.bind_some]
  · rw [if_neg (show ¬ (a.size < u.size ∧ _) from fun hh => h hh.1)]
    by_cases h1 : a.size ≤ u.size
    · rw [if_pos h1]
      have e : u.size - a.size = 0 := by omega
      rw [e, take_all]
      simp only [beq_iff_eq, hne, if_false, Option.bind_some]
    · rw [if_neg h1]
      simp only [Bool.false_eq_true, if_false, Option.bind_some]
theorem unsuf_self (u a : ByteArray) (h : u.toList = a.toList) : unsuf u a = u := by
  obtain rfl := same_eq h
  unfold unsuf
  rw [if_neg (fun hh => by omega)]
/-- the last name -/
def baseB (s a : ByteArray) : ByteArray := if s.toList = [] then ⟨#[46]⟩ else if tr s s.size = 0 then ⟨#[47]⟩ else
  unsuf ((s.extract 0 (tr s s.size)).extract (li s (tr s s.size)) (tr s s.size)) a
theorem pbase (s a : ByteArray) (hs : s.size ≤ 9223372036854775800) : Ev (fun k => path_Base.f k s a) (baseB s a) := by
  unfold path_Base.f baseB
  rw [kinds s hs]
  simp only [Option.bind_some]
  by_cases h0 : s.toList = []
  · simp only [h0, if_true]
    exact Ev.now _
  · by_cases h1 : tr s s.size = 0
    · simp only [h0, h1, if_true, if_false, show ¬ (1 : Int) = 0 by omega]
      exact Ev.now _
    · have hle := tr_le s s.size
      simp only [h0, h1, if_false, show ¬ (2 : Int) = 0 by omega, show ¬ (2 : Int) = 1 by omega, trimRight s hs, Option.bind_some]
      obtain ⟨t, ht⟩ : ∃ t, s.extract 0 (tr s s.size) = t := ⟨_, rfl⟩
      have hts : t.size = tr s s.size := by rw [← ht]; exact size_take s _ hle
      have hli : li s (tr s s.size) = li t t.size := by rw [hts, ← ht, li_take s _ hle _ (Nat.le_refl _)]
      rw [ht, hli, ← hts]
      have hll := li_le t t.size
      refine Ev.bind (lastIdx t (by omega)) ?_
      rw [show ((li t t.size : Int) - 1 + 1) = (li t t.size : Int) by omega, w64 _ (by omega) (by omega)]
      simp only [show (0 : Int) ≤ (li t t.size : Int) by omega, show (li t t.size : Int) ≤ (t.size : Int) by omega, if_true, Int.toNat_natCast]
      by_cases h2 : (t.extract (li t t.size) t.size).toList = a.toList
      · rw [if_pos h2, unsuf_self _ _ h2]
        exact Ev.now _
      · rw [if_neg h2, cutSuf _ a (by rw [drop_size]; omega) h2, Option.bind_some]
        exact Ev.now _
theorem rbase (s a : ByteArray) (hs : s.size ≤ 9223372036854775800) : Ev (fun k => tinselref03_Base.f k s a) (baseB s a) := by
  unfold tinselref03_Base.f baseB
  by_cases h0 : s.toList = []
  · simp only [h0, if_true]
    exact Ev.now _
  · have hle := tr_le s s.size
    simp only [h0, if_false]
    refine Ev.bind (bare s hs) ?_
    obtain ⟨t, ht⟩ : ∃ t, s.extract 0 (tr s s.size) = t := ⟨_, rfl⟩
    have hts : t.size = tr s s.size := by rw [← ht]; exact size_take s _ hle
    have hli : li s (tr s s.size) = li t t.size := by rw [hts, ← ht, li_take s _ hle _ (Nat.le_refl _)]
    rw [ht, hli, ← hts]
    by_cases h1 : t.size = 0
    · simp only [(nil_size t).mpr h1, h1, if_true]
      exact Ev.now _
    · simp only [mt (nil_size t).mp h1, h1, if_false]
      have hll := li_le t t.size
      refine Ev.bind (last t (by omega)) ?_
      simp only [show (0 : Int) ≤ (li t t.size : Int) by omega, show (li t t.size : Int) ≤ (t.size : Int) by omega, if_true, Int.toNat_natCast]
      obtain ⟨u, hu⟩ : ∃ u, t.extract (li t t.size) t.size = u := ⟨_, rfl⟩
      rw [hu]
      have hus : u.size = t.size - li t t.size := by rw [← hu]; exact drop_size t _
      unfold unsuf
      by_cases h2 : a.size < u.size
      · have hw : wrap64 ((u.size : Int) - (a.size : Int)) = ((u.size - a.size : Nat) : Int) := by unfold wrap64; omega
        simp only [show (a.size : Int) < (u.size : Int) by omega, if_true, hw, show (0 : Int) ≤ ((u.size - a.size : Nat) : Int) by omega, show ((u.size - a.size : Nat) : Int) ≤ (u.size : Int) by omega, Int.toNat_natCast, h2, true_and]
        split
        · exact Ev.now _
        · exact Ev.now _
      · simp only [show ¬ (a.size : Int) < (u.size : Int) by omega, if_false, h2, false_and]
        exact Ev.now _
/-- what stands ahead of the last name -/
def dirB (s : ByteArray) : ByteArray := if s.toList = [] then ⟨#[46]⟩ else if tr s s.size = 0 then ⟨#[47]⟩ else
  if li s (tr s s.size) = 0 then ⟨#[46]⟩ else if tr s (li s (tr s s.size)) = 0 then ⟨#[47]⟩ else s.extract 0 (tr s (li s (tr s s.size)))
theorem li_at (s : ByteArray) : ∀ n, 0 < li s n → bt s ((li s n - 1 : Nat) : Int) = 47
  | 0, h => by simp [li] at h
  | i + 1, h => by
    simp only [li] at h ⊢
    split
    · rename_i h1
      simpa using h1
    · rename_i h1
      rw [if_neg h1] at h
      exact li_at s i h
theorem tr_li (s : ByteArray) (n : Nat) (h : 0 < li s n) : tr s (li s n) = tr s (li s n - 1) := by
  obtain ⟨m, hm⟩ : ∃ m, li s n = m + 1 := ⟨li s n - 1, by omega⟩
  have hb := li_at s n h
  rw [hm] at hb ⊢
  simp only [Nat.add_sub_cancel] at hb ⊢
  simp only [tr, hb, if_true]
theorem pdir0 (t : ByteArray) (hs : t.size ≤ 9223372036854775800) : Ev (fun k => path_Dir.j0 k t) (if li t t.size = 0 then ⟨#[46]⟩ else if tr t (li t t.size) = 0 then ⟨#[47]⟩ else t.extract 0 (tr t (li t t.size))) := by
  refine Ev.step (fun k => by rw [path_Dir.j0]) ?_
  have hll := li_le t t.size
  refine Ev.bind (lastIdx t hs) ?_
  by_cases h : li t t.size = 0
  · simp only [h, Int.natCast_zero, show (0 : Int) - 1 < 0 by omega, if_true]
    exact Ev.now _
  · have hw : (li t t.size : Int) - 1 = ((li t t.size - 1 : Nat) : Int) := by omega
    simp only [hw, show ¬ ((li t t.size - 1 : Nat) : Int) < 0 by omega, show (0 : Int) ≤ ((li t t.size - 1 : Nat) : Int) by omega, show ((li t t.size - 1 : Nat) : Int) ≤ (t.size : Int) by omega, if_true, if_false, h, Int.toNat_natCast]
    have hsz : (t.extract 0 (li t t.size - 1)).size = li t t.size - 1 := size_take t _ (by omega)
    rw [trimRight _ (by omega), Option.bind_some, hsz, tr_take t _ (by omega) _ (Nat.le_refl _), take_take t _ _ (tr_le t _), ← tr_li t t.size (by omega)]
    have htl := tr_le t (li t t.size)
    by_cases h1 : tr t (li t t.size) = 0
    · rw [if_pos h1, if_pos ((nil_size _).mpr (by rw [size_take t _ (by omega)]; exact h1))]
      exact Ev.now _
    · rw [if_neg h1, if_neg (mt (nil_size _).mp (by rw [size_take t _ (by omega)]; exact h1))]
      exact Ev.now _
theorem pdir (s : ByteArray) (hs : s.size ≤ 9223372036854775800) : Ev (fun k => path_Dir.f k s) (dirB s) := by
  unfold path_Dir.f dirB
  rw [kinds s hs, trimRight s hs]
  simp only [Option.bind_some]
  have hle := tr_le s s.size
  have h := pdir0 (s.extract 0 (tr s s.size)) (by rw [size_take s _ hle]; omega)
  rw [size_take s _ hle, li_take s _ hle _ (Nat.le_refl _), tr_take s _ hle _ (li_le s _), take_take s _ _ (Nat.le_trans (tr_le s _) (li_le s _))] at h
  by_cases h0 : s.toList = []
  · have hz := (nil_size s).mp h0
    simp only [h0, if_true, show ¬ (0 : Int) = 1 by omega, if_false, Option.bind_some]
    have e : tr s s.size = 0 := by rw [hz]; rfl
    have e2 : li s (tr s s.size) = 0 := by rw [e]; rfl
    rw [if_pos e2] at h
    exact h
  · by_cases h1 : tr s s.size = 0
    · simp only [h0, h1, if_true, if_false]
      exact Ev.now _
    · simp only [h0, h1, if_false, show ¬ (2 : Int) = 0 by omega, show ¬ (2 : Int) = 1 by omega, Option.bind_some]
      exact h
theorem rdir (s : ByteArray) (hs : s.size ≤ 9223372036854775800) : Ev (fun k => tinselref03_Dir.f k s) (dirB s) := by
  unfold tinselref03_Dir.f dirB
  by_cases h0 : s.toList = []
  · simp only [h0, if_true]
    exact Ev.now _
  · have hle := tr_le s s.size
    simp only [h0, if_false]
    refine Ev.bind (bare s hs) ?_
    by_cases h1 : tr s s.size = 0
    · simp only [if_pos h1, if_pos ((nil_size (s.extract 0 (tr s s.size))).mpr (by rw [size_take s _ hle]; exact h1))]
      exact Ev.now _
    · simp only [if_neg h1, if_neg (mt (nil_size (s.extract 0 (tr s s.size))).mp (by rw [size_take s _ hle]; exact h1))]
      have hll := li_le s (tr s s.size)
      have hl := last (s.extract 0 (tr s s.size)) (by rw [size_take s _ hle]; omega)
      rw [size_take s _ hle, li_take s _ hle _ (Nat.le_refl _)] at hl
      refine Ev.bind hl ?_
      by_cases h2 : li s (tr s s.size) = 0
      · simp only [h2, Int.natCast_zero, if_true]
        exact Ev.now _
      · simp only [show ¬ (li s (tr s s.size) : Int) = 0 by omega, h2, if_false, show (0 : Int) ≤ (li s (tr s s.size) : Int) by omega, size_take s _ hle, show (li s (tr s s.size) : Int) ≤ (tr s s.size : Int) by omega, if_true, Int.toNat_natCast, take_take s _ _ hll]
        have htl := tr_le s (li s (tr s s.size))
        have hb := bare (s.extract 0 (li s (tr s s.size))) (by rw [size_take s _ (by omega)]; omega)
        rw [size_take s _ (by omega), tr_take s _ (by omega) _ (Nat.le_refl _), take_take s _ _ htl] at hb
        refine Ev.bind hb ?_
        by_cases h3 : tr s (li s (tr s s.size)) = 0
        · simp only [if_pos h3, if_pos ((nil_size (s.extract 0 (tr s (li s (tr s s.size))))).mpr (by rw [size_take s _ (by omega)]; exact h3))]
          exact Ev.now _
        · simp only [if_neg h3, if_neg (mt (nil_size (s.extract 0 (tr s (li s (tr s s.size))))).mp (by rw [size_take s _ (by omega)]; exact h3))]
          exact Ev.now _
end Go.Proofs.YtajafgcndalieaaDoor.Pure
