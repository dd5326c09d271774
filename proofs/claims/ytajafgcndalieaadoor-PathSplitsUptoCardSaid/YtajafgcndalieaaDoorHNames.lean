/- path.names: what stands between slashes, one behind the other: the iterator's contract, at every text. -/
import Derived.RangeFuncNested
import Derived.RangeFuncBound
import Derived.RangeFuncCalls
import Derived.RangeFuncLeaves
import Derived.RangeFuncBox
import Derived.Shelf.Abstract
import Derived.Shelf.RegionOpen
import Derived.WalkKit
import Derived.OwnWalkIn
import Derived.TacticsInMore
import Derived.LoopNIn
import Derived.LoopIn
import Derived.Maps.AppendAt
import Derived.Test.YtajafgcndalieaaDoorProg
import Derived.Test.YtajafgcndalieaaDoorWMore
import Derived.Test.YtajafgcndalieaaDoorWN
namespace Go.Proofs.YtajafgcndalieaaDoor.P
open Go.RowKit Go.Shelf Go.Proofs.YtajafgcndalieaaDoorW.PrintWords Go.Proofs.YtajafgcndalieaaDoorW.PrintLast Go.Proofs.YtajafgcndalieaaDoorW.PrintMore
set_option linter.unusedVariables false
set_option linter.unusedSimpArgs false
attribute [local go_sem] Oper.semAt_some

/-- What stands between slashes: cur is what has come of the name that is being read. -/
def nms : List UInt8 → List UInt8 → List (List UInt8)
  | cur, [] => if cur = [] then [] else [cur]
  | cur, c :: r => if c = 47 then (if cur = [] then nms [] r else cur :: nms [] r) else nms (cur ++ [c]) r
def namesB (s : ByteArray) : List ByteArray := (nms [] s.data.toList).map fun l => ⟨l.toArray⟩
/-- s from a place to another. -/
def cutB (s : ByteArray) (i j : Nat) : List UInt8 := (s.data.toList.drop i).take (j - i)

theorem path_names.in_ (F : Fence) (n : Nat) (hF : F.fn 26) (hro : F.round = none) (s : ByteArray) (w : World) :
    CallsIn F n Tryd.prog 26 #[.string s] w fun e w' => e = .returned (.func (.func 41) #[] #[.pointer (some ⟨w.heap.size, 0, none⟩)]) ∧ w' = w.alloc (.cells #[.string s] 9) := by
  refine callsIn_of_wp Tryd.func26 rfl hF ?_ hro
  simp only [Tryd.ntmps26, List.size_toArray, List.length_cons, List.length_nil, Nat.reduceAdd, Nat.reduceSub, Array.replicate_succ, Array.replicate_zero, List.push_toArray, List.append_toArray, List.nil_append, List.cons_append]
  gi_wp2
  go_ret
  exact ⟨rfl, rfl⟩

theorem len_data (s : ByteArray) : s.data.toList.length = s.size := by rw [Array.length_toList]; rfl
theorem cutB_nil (s : ByteArray) (i : Nat) : cutB s i i = [] := by simp [cutB]
theorem cutB_snoc (s : ByteArray) (fr i : Nat) (h : i < s.size) (hf : fr ≤ i) : cutB s fr (i + 1) = cutB s fr i ++ [s[i]] := by
  have hl := len_data s
  unfold cutB
  rw [show i + 1 - fr = (i - fr) + 1 by omega, List.take_succ_eq_append_getElem (by simp; omega)]
  congr 2
  rw [List.getElem_drop]
  simp only [show fr + (i - fr) = i by omega]
  rfl
theorem cutB_ne (s : ByteArray) (fr i : Nat) (h : i ≤ s.size) (hf : fr < i) : cutB s fr i ≠ [] := by
  have hl := len_data s
  intro e
  have := congrArg List.length e
  simp [cutB, hl] at this
  omega
theorem drop_at (s : ByteArray) (i : Nat) (h : i < s.size) : s.data.toList.drop i = s[i] :: s.data.toList.drop (i + 1) := by
  rw [List.drop_eq_getElem_cons (by rw [len_data]; exact h)]
  rfl
theorem extract_cut (s : ByteArray) (fr i : Nat) (h : i ≤ s.size) : s.extract fr i = ⟨(cutB s fr i).toArray⟩ := by
  apply ByteArray.ext
  apply Array.ext'
  simp [cutB]
/-- What a round keeps: the iterator's own box. -/
def KpBox (Bn : Nat) (A B : World) : Prop := ∀ v, A.cell? ⟨Bn, 0, none⟩ = some v → B.cell? ⟨Bn, 0, none⟩ = some v
theorem KpBox.t {Bn : Nat} {A B C : World} (h : KpBox Bn A B) (k : KpBox Bn B C) : KpBox Bn A C := fun v hv => k v (h v hv)
theorem KpBox.b {Bn : Nat} (W : World) (l : Nat) (o o' : Obj) (hl : W.heap[l]? = some o) (ho : o.isCells = false) : KpBox Bn W (W.putObj l o') := fun v hv => by
  have h1 := grownBy_putObj' W l o'
  exact cell_kept hv h1 (fun r e => by cases e; exact ⟨o, hl, ho⟩)
def restB (s : ByteArray) (fr i : Nat) : List ByteArray := (nms (cutB s fr i) (s.data.toList.drop i)).map fun l => ⟨l.toArray⟩
theorem restB_end (s : ByteArray) : restB s (s.size + 1) (s.size + 1) = [] := by
  unfold restB
  rw [cutB_nil, List.drop_eq_nil_of_le (by rw [len_data]; omega)]
  rfl
theorem restB_go (s : ByteArray) (fr i : Nat) (h : i < s.size) (hf : fr ≤ i) (hne : ((s[i]'h).toNat : Int) ≠ 47) : restB s fr i = restB s fr (i + 1) := by
  have hc : s[i] ≠ 47 := by
    intro e
    rw [e] at hne
    exact hne rfl
  unfold restB
  rw [drop_at s i h, cutB_snoc s fr i h hf, nms, if_neg hc]
theorem restB_cut (s : ByteArray) (fr i : Nat) (h : i ≤ s.size) (hf : fr ≤ i) (he : ∀ h : i < s.size, ((s[i]'h).toNat : Int) = 47) : restB s fr i = (if fr < i then [s.extract fr i] else []) ++ restB s (i + 1) (i + 1) := by
  have e1 : (cutB s fr i = []) = ¬ (fr < i) := by
    apply propext
    constructor
    · intro e hlt
      exact cutB_ne s fr i h hlt e
    · intro hn
      obtain rfl : fr = i := by omega
      exact cutB_nil s fr
  by_cases hi : i < s.size
  · have hc : s[i] = 47 := UInt8.toNat_inj.mp (by have := he hi; have h47 : (47 : UInt8).toNat = 47 := rfl; omega)
    unfold restB
    rw [drop_at s i hi, nms, if_pos hc, cutB_nil, extract_cut s fr i h]
    by_cases hlt : fr < i
    · rw [if_neg (by rw [e1]; simpa using hlt), if_pos hlt]
      rfl
    · rw [if_pos (by rw [e1]; exact hlt), if_neg hlt]
      rfl
  · obtain rfl : i = s.size := by omega
    rw [restB_end]
    unfold restB
    rw [List.drop_eq_nil_of_le (by rw [len_data]; omega), nms, extract_cut s fr s.size h]
    by_cases hlt : fr < s.size
    · rw [if_neg (by rw [e1]; simpa using hlt), if_pos hlt]
      rfl
    · rw [if_pos (by rw [e1]; exact hlt), if_neg hlt]
      rfl

set_option maxRecDepth 100000 in
set_option maxHeartbeats 1000000 in
theorem path_names1.in_ (F : Fence) (n : Nat) (hF : F.fn 41) (hro : F.round = none) (hn : 1 ≤ n) (l Bn : Nat) (s : ByteArray) (hs : s.size ≤ 9223372036854775800) (J Jx : List (Int × ByteArray) → World → Prop)
    (hY : ∀ pre x W, J pre W → pre.length < (namesB s).length → YieldAt F (n - 1) Tryd.prog l #[.int .i64 x.1, .string x.2] W fun e W' =>
      (e = .returned (.bool true) ∧ J (pre ++ [x]) W' ∧ KpBox Bn W W') ∨ (e = .returned (.bool false) ∧ Jx (pre ++ [x]) W'))
    (W : World) (hBn : W.cell? ⟨Bn, 0, none⟩ = some (.string s)) (h0 : J [] W) :
    CallsIn F n Tryd.prog 41 #[.func (.yield l) #[] #[], .pointer (some ⟨Bn, 0, none⟩)] W fun e W' => (∃ v, e = .returned v) ∧
      ((∃ ys : List (Int × ByteArray), ys.map (·.2) = namesB s ∧ J ys W') ∨ (∃ pre, True ∧ Jx pre W')) := by
  have HY := Aside0.mk hY
  have HBn := Aside0.mk hBn
  have HJ0 := Aside0.mk h0
  clear hY hBn h0
  refine callsIn_of_wp Tryd.func41 rfl hF ?_ hro
  simp only [Tryd.ntmps41, List.size_toArray, List.length_cons, List.length_nil, Nat.reduceAdd, Nat.reduceSub, Array.replicate_succ, Array.replicate_zero, List.push_toArray, List.append_toArray, List.nil_append, List.cons_append]
  gi_wp2
  gi_loopw [3, 4] (fun v3 v4 wr => ∃ (fr i : Nat) (pre : List (Int × ByteArray)), v3 = .int .i64 (fr : Int) ∧ v4 = .int .i64 (i : Int) ∧ fr ≤ i ∧ i ≤ s.size + 1 ∧ Aside0 (i = s.size + 1 → fr = i) ∧ Aside0 (namesB s = pre.map (·.2) ++ restB s fr i) ∧ Aside0 (J pre wr) ∧ Aside0 (wr.cell? ⟨Bn, 0, none⟩ = some (.string s)))
    (fun _ v4 _ => s.size + 1 - (intOf v4).toNat)
  case atStart =>
    exact ⟨0, 0, [], rfl, rfl, Nat.le_refl _, Nat.zero_le _, ⟨by omega⟩, ⟨by simp [namesB, restB, cutB]⟩, HJ0, HBn⟩
  case round =>
    obtain ⟨fr, i, pre, rfl, rfl, hfi, his, HE, HN, HJ, HB⟩ := hrel
    have hcell : wr.cell? ⟨Bn, 0, none⟩ = some (.string s) := HB.out
    have hw : IntKind.i64.wrap ((i : Int) + 1) = (i : Int) + 1 := IntWalk.i64_in _ (by omega)
    by_cases hend : i = s.size + 1
    · obtain rfl := HE.out hend
      subst hend
      have hj := HJ.out
      have hns := HN.out
      rw [restB_end, List.append_nil] at hns
      have HNs := Aside0.mk hns
      clear hns
      gi_wp2
      go_end0
      exact ⟨⟨_, rfl⟩, .inl ⟨pre, HNs.out.symm, hj⟩⟩
    · have hle : i ≤ s.size := by omega
      by_cases hcont : ∃ h : i < s.size, ((s[i]'h).toNat : Int) ≠ 47
      · obtain ⟨hi, hne⟩ := hcont
        have hb1 : (((s[i]'hi).toNat : Int) == 47) = false := beq_eq_false_iff_ne.mpr hne
        have hb2 : (((s[i]'hi).toNat : Int) != 47) = true := bne_iff_ne.mpr hne
        gi_wp2
        go_roundw
        case rel => exact ⟨fr, i + 1, pre, rfl, by go_num, by omega, by omega, ⟨by omega⟩, ⟨by rw [← restB_go s fr i hi hfi hne]; exact HN.out⟩, HJ, HB⟩
        case measure => simp [intOf]; omega
      · have hcut := restB_cut s fr i hle hfi (fun h => by
          by_cases e : ((s[i]'h).toNat : Int) = 47
          · exact e
          · exact absurd ⟨h, e⟩ hcont)
        have HC := Aside0.mk hcut
        clear hcut
        by_cases hlt2 : fr < i
        · obtain ⟨fn, tmps, assign, body, hy, hR⟩ := HY.out pre ((i : Int), s.extract fr i) wr HJ.out (by rw [HN.out, HC.out, if_pos hlt2]; simp)
          dsimp only at hy
          have HN2 : Aside0 (namesB s = (pre ++ [((i : Int), s.extract fr i)]).map (·.2) ++ restB s (i + 1) (i + 1)) := ⟨by rw [HN.out, HC.out, if_pos hlt2]; simp⟩
          by_cases hi : i < s.size
          · have heq : ((s[i]'hi).toNat : Int) = 47 := by
              by_cases e : ((s[i]'hi).toNat : Int) = 47
              · exact e
              · exact absurd ⟨hi, e⟩ hcont
            have hb1 : (((s[i]'hi).toNat : Int) == 47) = true := beq_iff_eq.mpr heq
            have hb2 : (((s[i]'hi).toNat : Int) != 47) = false := bne_eq_false_iff_eq.mpr heq
            clear hcont heq
            gi_wp2
            refine hR.mono ?_
            rintro e W3 (⟨rfl, hJ3, hk3⟩ | ⟨rfl, hJx3⟩)
            · gi_wp2
              go_roundw
              case rel => exact ⟨i + 1, i + 1, _, by go_num, by go_num, Nat.le_refl _, by omega, ⟨fun _ => rfl⟩, HN2, ⟨hJ3⟩, ⟨hk3 _ HB.out⟩⟩
              case measure => simp [intOf]; omega
            · gi_wp2
              refine bodyPost_ret (results_none rfl _ _ _) rfl ?_
              exact ⟨⟨_, rfl⟩, .inr ⟨_, trivial, hJx3⟩⟩
          · obtain rfl : i = s.size := by omega
            have hb1 : decide ((s.size : Int) < (s.size : Int)) = false := by simp
            clear hcont hi
            gi_wp2
            refine hR.mono ?_
            rintro e W3 (⟨rfl, hJ3, hk3⟩ | ⟨rfl, hJx3⟩)
            · gi_wp2
              go_roundw
              case rel => exact ⟨s.size + 1, s.size + 1, _, by go_num, by go_num, Nat.le_refl _, Nat.le_refl _, ⟨fun _ => rfl⟩, HN2, ⟨hJ3⟩, ⟨hk3 _ HB.out⟩⟩
              case measure => simp [intOf]
            · gi_wp2
              refine bodyPost_ret (results_none rfl _ _ _) rfl ?_
              exact ⟨⟨_, rfl⟩, .inr ⟨_, trivial, hJx3⟩⟩
        · have HN2 : Aside0 (namesB s = pre.map (·.2) ++ restB s (i + 1) (i + 1)) := ⟨by rw [HN.out, HC.out, if_neg hlt2, List.nil_append]⟩
          obtain rfl : fr = i := by omega
          have hb0 : decide ((fr : Int) < (fr : Int)) = false := by simp
          by_cases hi : fr < s.size
          · have heq : ((s[fr]'hi).toNat : Int) = 47 := by
              by_cases e : ((s[fr]'hi).toNat : Int) = 47
              · exact e
              · exact absurd ⟨hi, e⟩ hcont
            have hb1 : (((s[fr]'hi).toNat : Int) == 47) = true := beq_iff_eq.mpr heq
            have hb2 : (((s[fr]'hi).toNat : Int) != 47) = false := bne_eq_false_iff_eq.mpr heq
            clear hcont heq
            gi_wp2
            refine ⟨fun _ h => (by cases h), ?_⟩
            gi_wp2
            go_roundw
            case rel => exact ⟨fr + 1, fr + 1, pre, by go_num, by go_num, Nat.le_refl _, by omega, ⟨fun _ => rfl⟩, HN2, HJ, HB⟩
            case measure => simp [intOf]; omega
          · obtain rfl : fr = s.size := by omega
            clear hcont hi
            gi_wp2
            refine ⟨fun _ h => (by cases h), ?_⟩
            gi_wp2
            go_roundw
            case rel => exact ⟨s.size + 1, s.size + 1, pre, by go_num, by go_num, Nat.le_refl _, Nat.le_refl _, ⟨fun _ => rfl⟩, HN2, HJ, HB⟩
            case measure => simp [intOf]

theorem path_names1.stops (F : Fence) (n : Nat) (hF : F.fn 41) (hro : F.round = none) (hn : 1 ≤ n) (Bn : Nat) (s : ByteArray) (hs : s.size ≤ 9223372036854775800) (w : World) (hBn : Bn < w.heap.size) (hc : w.cell? ⟨Bn, 0, none⟩ = some (.string s)) :
    SeqStopsK F n Tryd.prog 41 #[.pointer (some ⟨Bn, 0, none⟩)] (fun x : Int × ByteArray => #[.int .i64 x.1, .string x.2]) (KpBox Bn) (fun ys => ys.map (·.2) = namesB s) (fun _ => True) (namesB s).length w := fun l J Jx W hW _ _ hY h0 =>
  path_names1.in_ F n hF hro hn l Bn s hs J Jx hY W ((hW.cell (p := ⟨Bn, 0, none⟩) hBn).trans hc) h0

end Go.Proofs.YtajafgcndalieaaDoor.P
