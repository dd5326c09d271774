/- path.Split: a path's parts, at every text: its contract in the printed form. -/
import Derived.Test.YtajafgcndalieaaDoorHClean
import Derived.Test.YtajafgcndalieaaDoorHStr
namespace Go.Proofs.YtajafgcndalieaaDoor.P
open Go.RowKit Go.Shelf Go.Proofs.YtajafgcndalieaaDoorW.PrintWords Go.Proofs.YtajafgcndalieaaDoorW.PrintLast Go.Proofs.YtajafgcndalieaaDoorW.PrintMore
set_option linter.unusedVariables false
set_option linter.unusedSimpArgs false
attribute [local go_sem] Oper.semAt_some

def longB (s : ByteArray) (l : List ByteArray) : Bool := decide (255 < (s.size : Int)) || l.any fun n => decide (27 < (n.size : Int))
theorem longB_snoc (s : ByteArray) (l : List ByteArray) (n : ByteArray) : longB s (l ++ [n]) = (longB s l || decide (27 < (n.size : Int))) := by
  simp [longB, Bool.or_assoc]
def path_Split.f (a0 : ByteArray) : Option (Bool × List ByteArray × Bool × Int) :=
  if a0.toList = [] then some (false, [], false, 2) else
  if a0.size ≤ 9223372036854775800 then (if (namesB a0).length * 16 ≤ 140737488355328 then
    (if longB a0 (namesB a0) = true then some (false, [], false, 36) else
     if 0 ≤ Lib.indexByte a0.data.toList 0 then some (false, [], false, 22) else
     some (bt a0 0 == 47, namesB a0, decide (0 < ((namesB a0).length : Int)) && (bt a0 ((a0.size : Int) - 1) == 47), 0)) else none) else none

def SplIs (base b2 R Bl Bp Bs : Nat) (w : World) (s : ByteArray) (abs lg : Bool) (l : List ByteArray) (W : World) : Prop :=
  ∃ v, W.heap[R]? = some (.cells #[.bool false, .slice none 0 0, .bool false] 24 (0, 0)) ∧ W.heap[Bp]? = some (.cells #[.bool abs, v, .bool false] 24 (0, 0)) ∧ Boxed W Bl 4 (.bool lg) ∧ Boxed W Bs 9 (.string s) ∧ W.ownsRow b2 9 1 v l.length (l.map Value.string) ∧ Below base w W
theorem spb_kept {W W' : World} {row : Option Nat} {B t : Nat} {cs : Array Value} (h : W.heap[B]? = some (.cells cs t (0, 0))) (hg : W.grownBy W' row) (hne : some B ≠ row) : W'.heap[B]? = some (.cells cs t (0, 0)) := (hg.block B (Array.getElem?_eq_some_iff.1 h).1 hne).trans h
theorem spb_alloc {W : World} {B t : Nat} {cs : Array Value} (h : W.heap[B]? = some (.cells cs t (0, 0))) (o : Obj) : (W.alloc o).heap[B]? = some (.cells cs t (0, 0)) := spb_kept h (World.grownBy_alloc W o none) (by simp)
theorem spb_cell {W : World} {B t : Nat} {cs : Array Value} (h : W.heap[B]? = some (.cells cs t (0, 0))) (i : Nat) (v : Value) (hv : cs[i]? = some v) : W.cell? ⟨B, i, none⟩ = some v := by simp [World.cell?, h, hv]
theorem spb_frozen {W : World} {B t : Nat} {cs : Array Value} (h : W.heap[B]? = some (.cells cs t (0, 0))) (i : Nat) : W.frozen? ⟨B, i, none⟩ = false := by simp [World.frozen?, h]
theorem SplIs.own (base b2 R Bl Bp Bs B : Nat) (w : World) (s : ByteArray) (abs : Bool) (f : List (Int × ByteArray) → Bool) (g : List (Int × ByteArray) → List ByteArray) (hB : base ≤ B) (hw : base ≤ w.heap.size) : OwnFrom B (fun pre W => SplIs base b2 R Bl Bp Bs w s abs (f pre) (g pre) W) := by
  rintro pre W W' row ⟨v, h1, h2, h3, h3', h4, h5⟩ hg hr
  have hne : ∀ {Bx t : Nat} {cs : Array Value}, W.heap[Bx]? = some (.cells cs t (0, 0)) → some Bx ≠ row := by
    intro Bx t cs hb e
    obtain ⟨_, o, ho, hc⟩ := hr Bx e.symm
    rw [hb] at ho
    cases ho
    cases hc
  refine ⟨v, spb_kept h1 hg (hne h1), spb_kept h2 hg (hne h2), h3.kept hg (hne h3), h3'.kept hg (hne h3'), h4.kept hg ?_, ?_⟩
  · rcases h4.2 with ⟨rfl, _⟩ | ⟨g, cap, cur, rfl, _, hgb, _⟩
    · exact .inl rfl
    · refine .inr fun e' => ?_
      obtain ⟨_, o, ho, hc⟩ := hr g (by simpa [Value.ownBlock] using e'.symm)
      rw [hgb] at ho
      cases ho
      cases hc
  · exact h5.grown hg (Nat.le_trans hw h5.size) (fun k e => Nat.le_trans hB (hr k e).1)

theorem grown_set (W : World) (b i : Nat) (v : Value) : W.grownBy (W.setCell ⟨b, i, none⟩ v) (some b) :=
  ⟨rfl, rfl, rfl, (KeepsWalks.setCell W _ v).size, fun k _ hk => Below.heap_setCell _ _ _ k (fun e => hk (by rw [e]))⟩
theorem spb_set3 {W : World} {B t : Nat} {a b c : Value} (u : Value) (i : Nat) (h : W.heap[B]? = some (.cells #[a, b, c] t (0, 0))) : (W.setCell ⟨B, i, none⟩ u).heap[B]? = some (.cells (#[a, b, c].set! i u) t (0, 0)) := by
  obtain ⟨hlt, hk⟩ := Array.getElem?_eq_some_iff.1 h
  show (W.heap.modify B _)[B]? = _
  rw [Array.getElem?_eq_getElem (by rw [Array.size_modify]; exact hlt), Array.getElem_modify_self, hk]
  rfl
theorem spl_step {W w2 : World} {base b2 R Bl Bp Bs k m : Nat} {abs lg : Bool} {s : ByteArray} {v v' : Value} {xs ys : List Value} {tmp : Obj}
    (hR : W.heap[R]? = some (.cells #[.bool false, .slice none 0 0, .bool false] 24 (0, 0))) (hP : W.heap[Bp]? = some (.cells #[.bool abs, v, .bool false] 24 (0, 0))) (bl : Boxed W Bl 4 (.bool lg)) (bs : Boxed W Bs 9 (.string s))
    (hrow : W.ownsRow b2 9 1 v k xs) (h0 : R < b2) (h1 : Bp < b2) (h2 : Bl < b2) (h3 : Bs < b2) (h4 : base ≤ Bp) (h5 : Bp ≠ R) (h6 : Bp ≠ Bl) (h6' : Bp ≠ Bs) (h7 : b2 ≤ W.heap.size)
    (hown' : w2.ownsRow b2 9 1 v' m ys) (hgrow : (W.alloc tmp).grownBy w2 v.ownBlock) :
    w2.heap[Bp]? = some (.cells #[.bool abs, v, .bool false] 24 (0, 0)) ∧ (w2.setCell ⟨Bp, 1, none⟩ v').heap[R]? = some (.cells #[.bool false, .slice none 0 0, .bool false] 24 (0, 0)) ∧
    (w2.setCell ⟨Bp, 1, none⟩ v').heap[Bp]? = some (.cells #[.bool abs, v', .bool false] 24 (0, 0)) ∧ Boxed (w2.setCell ⟨Bp, 1, none⟩ v') Bl 4 (.bool lg) ∧ Boxed (w2.setCell ⟨Bp, 1, none⟩ v') Bs 9 (.string s) ∧
    (w2.setCell ⟨Bp, 1, none⟩ v').ownsRow b2 9 1 v' m ys ∧ KeepsOthers W (w2.setCell ⟨Bp, 1, none⟩ v') ∧ Below base W (w2.setCell ⟨Bp, 1, none⟩ v') := by
  have kb : ∀ {B tb : Nat} {cs : Array Value}, W.heap[B]? = some (.cells cs tb (0, 0)) → B < b2 → w2.heap[B]? = some (.cells cs tb (0, 0)) := fun hb hlt => spb_kept (spb_alloc hb tmp) hgrow (own_away hrow hlt)
  have kc : ∀ {B tb : Nat} {cs : Array Value}, W.heap[B]? = some (.cells cs tb (0, 0)) → B < b2 → Bp ≠ B → (w2.setCell ⟨Bp, 1, none⟩ v').heap[B]? = some (.cells cs tb (0, 0)) := fun hb hlt hne => spb_kept (kb hb hlt) (grown_set w2 Bp 1 v') (fun e => hne (Option.some.inj e).symm)
  refine ⟨kb hP h1, kc hR h0 h5, ?_, kc bl h2 h6, kc bs h3 h6', hown'.kept (grown_set w2 Bp 1 v') (.inr (fun e => own_away hown' h1 e.symm)), ?_, ?_⟩
  · exact spb_set3 v' 1 (kb hP h1)
  · refine ((KeepsOthers.alloc W tmp).trans (KeepsOthers.of_grownBy hgrow fun j o ej hj => ?_)).trans (KeepsOthers.setCell _ _ _)
    rcases (hrow.alloc tmp).2 with ⟨rfl, _⟩ | ⟨g, cap, cur, rfl, _, hgb, _⟩
    · simp [Value.ownBlock] at ej
    · obtain rfl : g = j := by simpa [Value.ownBlock] using ej
      rw [hgb] at hj; cases hj; rfl
  · refine (((Below.refl base W).alloc (by omega) tmp).grown hgrow (by simp; omega) fun j ej => ?_).setCell (p := ⟨Bp, 1, none⟩) h4 v'
    have := own_base hrow j ej
    omega
/-- a store into the box of 'long' -/
theorem spl_long {W : World} {base b2 R Bl Bp Bs k : Nat} {abs lg : Bool} {s : ByteArray} {v : Value} {xs : List Value} (lg' : Bool)
    (hR : W.heap[R]? = some (.cells #[.bool false, .slice none 0 0, .bool false] 24 (0, 0))) (hP : W.heap[Bp]? = some (.cells #[.bool abs, v, .bool false] 24 (0, 0))) (bl : Boxed W Bl 4 (.bool lg)) (bs : Boxed W Bs 9 (.string s))
    (hrow : W.ownsRow b2 9 1 v k xs) (h2 : Bl < b2) (h4 : base ≤ Bl) (h5 : Bl ≠ R) (h6 : Bp ≠ Bl) (h6' : Bl ≠ Bs) :
    (W.setCell ⟨Bl, 0, none⟩ (.bool lg')).heap[R]? = some (.cells #[.bool false, .slice none 0 0, .bool false] 24 (0, 0)) ∧ (W.setCell ⟨Bl, 0, none⟩ (.bool lg')).heap[Bp]? = some (.cells #[.bool abs, v, .bool false] 24 (0, 0)) ∧
    Boxed (W.setCell ⟨Bl, 0, none⟩ (.bool lg')) Bl 4 (.bool lg') ∧ Boxed (W.setCell ⟨Bl, 0, none⟩ (.bool lg')) Bs 9 (.string s) ∧ (W.setCell ⟨Bl, 0, none⟩ (.bool lg')).ownsRow b2 9 1 v k xs ∧ KeepsOthers W (W.setCell ⟨Bl, 0, none⟩ (.bool lg')) ∧ Below base W (W.setCell ⟨Bl, 0, none⟩ (.bool lg')) :=
  ⟨spb_kept hR (grown_set W Bl 0 _) (fun e => h5 (Option.some.inj e).symm), spb_kept hP (grown_set W Bl 0 _) (fun e => h6 (Option.some.inj e)), bl.set _, spb_kept bs (grown_set W Bl 0 _) (fun e => h6' (Option.some.inj e).symm),
    hrow.kept (grown_set W Bl 0 _) (.inr (fun e => own_away hrow h2 e.symm)), KeepsOthers.setCell _ _ _, (Below.refl base W).setCell (p := ⟨Bl, 0, none⟩) h4 _⟩

/-- three stores fill the result's block; what stands there is read back behind the call's last step -/
theorem spl_fill {W : World} {R D : Nat} {a b c a' b' c' : Value} (hR : W.heap[R]? = some (.cells #[a, b, c] 24 (0, 0))) (hK : W.heap[D]? = some (.deferred (some []))) (hne : D ≠ R) :
    (((W.setCell ⟨R, 0, none⟩ a').setCell ⟨R, 1, none⟩ b').setCell ⟨R, 2, none⟩ c').heap[D]? = some (.deferred (some [])) ∧
    ((((W.setCell ⟨R, 0, none⟩ a').setCell ⟨R, 1, none⟩ b').setCell ⟨R, 2, none⟩ c').putObj D (.deferred none)).cell? ⟨R, 0, none⟩ = some a' ∧
    ((((W.setCell ⟨R, 0, none⟩ a').setCell ⟨R, 1, none⟩ b').setCell ⟨R, 2, none⟩ c').putObj D (.deferred none)).cell? ⟨R, 1, none⟩ = some b' ∧
    ((((W.setCell ⟨R, 0, none⟩ a').setCell ⟨R, 1, none⟩ b').setCell ⟨R, 2, none⟩ c').putObj D (.deferred none)).cell? ⟨R, 2, none⟩ = some c' := by
  have h3 : (((W.setCell ⟨R, 0, none⟩ a').setCell ⟨R, 1, none⟩ b').setCell ⟨R, 2, none⟩ c').heap[R]? = some (.cells #[a', b', c'] 24 (0, 0)) := spb_set3 c' 2 (spb_set3 b' 1 (spb_set3 a' 0 hR))
  have hk : (((W.setCell ⟨R, 0, none⟩ a').setCell ⟨R, 1, none⟩ b').setCell ⟨R, 2, none⟩ c').heap[D]? = some (.deferred (some [])) := by
    rw [Below.heap_setCell _ _ _ D hne, Below.heap_setCell _ _ _ D hne, Below.heap_setCell _ _ _ D hne]
    exact hK
  have kc : ∀ (i : Nat) (v : Value), #[a', b', c'][i]? = some v → ((((W.setCell ⟨R, 0, none⟩ a').setCell ⟨R, 1, none⟩ b').setCell ⟨R, 2, none⟩ c').putObj D (.deferred none)).cell? ⟨R, i, none⟩ = some v := fun i v hv =>
    cell_kept (spb_cell h3 i v hv) (grownBy_putObj' _ D (.deferred none)) (fun r e => by cases e; exact ⟨_, hk, rfl⟩)
  exact ⟨hk, kc 0 _ rfl, kc 1 _ rfl, kc 2 _ rfl⟩
theorem spl_below {w W : World} {R D : Nat} {a' b' c' : Value} (h : Below w.heap.size w W) (hR : w.heap.size ≤ R) (hD : w.heap.size ≤ D) : Below w.heap.size w ((((W.setCell ⟨R, 0, none⟩ a').setCell ⟨R, 1, none⟩ b').setCell ⟨R, 2, none⟩ c').putObj D (.deferred none)) :=
  (((h.setCell (p := ⟨R, 0, none⟩) hR _).setCell (p := ⟨R, 1, none⟩) hR _).setCell (p := ⟨R, 2, none⟩) hR _).grown (grownBy_putObj' _ D (.deferred none)) (by have := h.size; simpa using this) (fun j e => by cases e; exact hD)

theorem spl_row {W : World} {base b2 R D k : Nat} {v a' b' c' : Value} {xs : List Value} (hrow : W.ownsRow b2 9 1 v k xs) (hR : R < b2) (hb : base ≤ b2) (hK : (((W.setCell ⟨R, 0, none⟩ a').setCell ⟨R, 1, none⟩ b').setCell ⟨R, 2, none⟩ c').heap[D]? = some (.deferred (some []))) :
    ((((W.setCell ⟨R, 0, none⟩ a').setCell ⟨R, 1, none⟩ b').setCell ⟨R, 2, none⟩ c').putObj D (.deferred none)).ownsRow base 9 1 v k xs := by
  have h1 := hrow.kept (grown_set W R 0 a') (.inr (fun e => own_away hrow hR e.symm))
  have h2 := h1.kept (grown_set _ R 1 b') (.inr (fun e => own_away hrow hR e.symm))
  have h3 := h2.kept (grown_set _ R 2 c') (.inr (fun e => own_away hrow hR e.symm))
  exact own_weaken (ownsRow_putObj h3 _ hK rfl) hb
theorem bt_ix (s : ByteArray) (i : Nat) (h : i < s.size) : bt s (i : Int) = ((s[i]'h).toNat : Int) := by
  simp [bt, h]

set_option maxRecDepth 100000 in
set_option maxHeartbeats 4000000 in
theorem path_Split.calls (a0 : ByteArray) (r1 : Bool) (r2 : List ByteArray) (r3 : Bool) (r4 : Int) (w : World) (h : path_Split.f a0 = some (r1, r2, r3, r4)) :
    Calls Tryd.prog 7 #[.string a0] w fun e w' => ∃ v1_ : Value, e = .returned (.tuple #[.agg #[.bool r1, v1_, .bool r3], .int .i64 r4]) ∧ Kd.R Kd.string 9 w' w.heap.size (fun _ => True) v1_ r2 ∧ Below w.heap.size w w' := by
  refine (callsIn_wide (n := 5)).1 ?_
  have hro : Fence.wide.round = none := rfl
  unfold path_Split.f at h
  by_cases h0 : a0.toList = []
  · rw [if_pos h0] at h
    obtain ⟨rfl, rfl, rfl, rfl⟩ : false = r1 ∧ [] = r2 ∧ false = r3 ∧ 2 = r4 := by simpa using h
    have b1 : (!a0.toList.isEmpty) = false := by rw [h0]; rfl
    have b2 : (a0.toList.isEmpty) = true := by rw [h0]; rfl
    refine callsIn_of_wp Tryd.func7 rfl trivial ?_ hro
    simp only [Tryd.ntmps7, List.size_toArray, List.length_cons, List.length_nil, Nat.reduceAdd, Nat.reduceSub, Array.replicate_succ, Array.replicate_zero, List.push_toArray, List.append_toArray, List.nil_append, List.cons_append]
    gi_wp2
    exact bodyPost_ret (v := .tuple #[.agg #[.bool false, .slice none 0 0, .bool false], .int .i64 2]) (by simp [results, Tryd.results7, go_sem]) rfl ⟨_, rfl, Kd.R_nil _ _ _ _ _, (Below.refl _ _).alloc (Nat.le_refl _) _⟩
  · rw [if_neg h0] at h
    split at h
    case isFalse => cases h
    rename_i hs
    split at h
    case isFalse => cases h
    rename_i hN
    have b1 : (!a0.toList.isEmpty) = true := by
      cases hl : a0.toList with
      | nil => exact absurd hl h0
      | cons _ _ => rfl
    have b2 : (a0.toList.isEmpty) = false := by
      cases hl : a0.toList with
      | nil => exact absurd hl h0
      | cons _ _ => rfl
    have hpos : 0 < a0.size := by
      rw [Go.ByteArray.toList_eq] at h0
      rw [← len_data]
      exact List.length_pos_iff.mpr h0
    have HN := Aside0.mk hN
    have HH := Aside0.mk h
    have H0 := Aside0.mk h0
    clear hN h h0
    obtain ⟨i0, hi, hz0, hz1, hz2⟩ := info_parts info9
    have hp1 : (0 : Int) < (a0.size : Int) := by omega
    obtain ⟨abs, habs⟩ : ∃ abs : Bool, (((a0[0]'hpos).toNat : Int) == 47) = abs := ⟨_, rfl⟩
    obtain ⟨lg0, hlg0⟩ : ∃ lg0 : Bool, decide (255 < (a0.size : Int)) = lg0 := ⟨_, rfl⟩
    have HAB := Aside0.mk habs
    have HLG := Aside0.mk hlg0
    refine callsIn_of_wp_marks Tryd.func7 rfl trivial ?_ hro
    simp only [Tryd.ntmps7, List.size_toArray, List.length_cons, List.length_nil, Nat.reduceAdd, Nat.reduceSub, Array.replicate_succ, Array.replicate_zero, List.push_toArray, List.append_toArray, List.nil_append, List.cons_append]
    gi_wp2_with (first | (refine ⟨trivial, ?_⟩; gi_at_call 26; refine (path_names.in_ Fence.wide _ trivial rfl _ _).mono ?_; rintro e w1 ⟨rfl, rfl⟩))
    clear habs hlg0
    have hS0 : SplIs w.heap.size (w.heap.size + 1 + 1 + 1 + 1) w.heap.size (w.heap.size + 1) (w.heap.size + 1 + 1) (w.heap.size + 1 + 1 + 1) w a0 abs (longB a0 (([] : List (Int × ByteArray)).map (·.2))) (([] : List (Int × ByteArray)).map (·.2)) ((((w.alloc (.cells #[.bool false, .slice none 0 0, .bool false] 24)).alloc (.cells #[.bool lg0] 4)).alloc (.cells #[.bool abs, .slice none 0 0, .bool false] 24)).alloc (.cells #[.string a0] 9)) := by
      refine ⟨.slice none 0 0, ?_, ?_, ?_, ?_, World.ownsRow_nil _ _ _ _, ?_⟩
      · exact spb_alloc (spb_alloc (spb_alloc (World.alloc_heap_new w _) _) _) _
      · have := World.alloc_heap_new ((w.alloc (.cells #[.bool false, .slice none 0 0, .bool false] 24)).alloc (.cells #[.bool lg0] 4)) (.cells #[.bool abs, .slice none 0 0, .bool false] 24)
        simp only [World.size_alloc] at this
        exact spb_alloc this _
      · have := World.alloc_heap_new (w.alloc (.cells #[.bool false, .slice none 0 0, .bool false] 24)) (.cells #[.bool lg0] 4)
        simp only [World.size_alloc] at this
        have e : longB a0 (([] : List (Int × ByteArray)).map (·.2)) = lg0 := by rw [← HLG.out]; simp [longB]
        rw [e]
        exact spb_alloc (spb_alloc this _) _
      · have := World.alloc_heap_new (((w.alloc (.cells #[.bool false, .slice none 0 0, .bool false] 24)).alloc (.cells #[.bool lg0] 4)).alloc (.cells #[.bool abs, .slice none 0 0, .bool false] 24)) (.cells #[.string a0] 9)
        simp only [World.size_alloc] at this
        exact this
      · exact ((((Below.refl _ _).alloc (Nat.le_refl _) _).alloc (by simp) _).alloc (by simp; omega) _).alloc (by simp; omega) _
    have hbs : ((((w.alloc (.cells #[.bool false, .slice none 0 0, .bool false] 24)).alloc (.cells #[.bool lg0] 4)).alloc (.cells #[.bool abs, .slice none 0 0, .bool false] 24)).alloc (.cells #[.string a0] 9)).cell? ⟨w.heap.size + 1 + 1 + 1, 0, none⟩ = some (.string a0) := by
      obtain ⟨v, _, _, _, h4, _, _⟩ := hS0
      exact h4.cell
    refine wpIn_rangeFunc_ownG hro (by omega) (gf := 41) (lb := #[.pointer (some ⟨w.heap.size + 1 + 1 + 1, 0, none⟩)]) rfl trivial (enters_of Tryd.func41 (by kernel_rfl) rfl)
      (path_names1.stops Fence.wide (5 - 1) trivial rfl (by omega) _ a0 hs _ (by simp) hbs) KpBox.t (fun W l o o' _ hl ho _ => KpBox.b W l o o' hl ho) (Below.refl _ _) (fun _ => rfl)
      (fun pre W => SplIs w.heap.size (w.heap.size + 1 + 1 + 1 + 1) w.heap.size (w.heap.size + 1) (w.heap.size + 1 + 1) (w.heap.size + 1 + 1 + 1) w a0 abs (longB a0 (pre.map (·.2))) (pre.map (·.2)) W)
      (fun _ _ _ => False)
      (SplIs.own _ _ _ _ _ _ _ w a0 abs (fun pre => longB a0 (pre.map (·.2))) (fun pre => pre.map (·.2)) (by simp; omega) (Nat.le_refl _))
      (fun _ _ _ _ _ hs _ _ => hs)
      hS0
      (fun x => { tmps := #[.string a0, undef, .pointer (some ⟨w.heap.size, 0, none⟩), .int .i64 0, .pointer (some ⟨w.heap.size + 1, 0, none⟩), .pointer (some ⟨w.heap.size + 1 + 1, 0, none⟩), undef, .string x.2, .string a0, .bool false, undef, .string a0, .int .i64 a0.size, .bool lg0, .string a0, .int .u8 (a0[0]'hpos).toNat, .bool abs, .agg #[.bool abs, .slice none 0 0, .bool false], .string a0, .func (.func 41) #[] #[.pointer (some ⟨w.heap.size + 1 + 1 + 1, 0, none⟩)], .int .i64 x.1, .string x.2, undef, undef, undef, undef, undef, undef, undef, undef, undef, undef, undef, undef, undef, undef, undef, undef, undef, undef, undef, undef, undef, undef, undef, undef, undef, undef, undef, undef, undef, undef, undef, undef, undef, undef], defers := [] }) ?assign ?body ?done ?stop
    case assign =>
      intro l x W K hK
      gi_wp2
      exact hK
    case body =>
      rintro l pre x W HO hlt
      obtain ⟨v, hR, hP, bl, bs, hrow, hB⟩ := HO
      obtain ⟨L, hL⟩ : ∃ L, L = pre.map (·.2) := ⟨_, rfl⟩
      rw [← hL] at hrow bl
      have hLl : L.length = pre.length := by rw [hL]; simp
      have hmap : (pre ++ [x]).map (·.2) = L ++ [x.2] := by simp [hL]
      have HM := Aside0.mk hmap
      obtain ⟨lg, hlg⟩ : ∃ lg, longB a0 L = lg := ⟨_, rfl⟩
      rw [hlg] at bl
      have HL1 : Aside0 (longB a0 ((pre ++ [x]).map (·.2)) = (lg || decide (27 < (x.2.size : Int)))) := ⟨by rw [hmap, longB_snoc, hlg]⟩
      have HK1 : Aside0 (L.length + 1 ≤ maxLen) := ⟨by have := HN.out; unfold maxLen; omega⟩
      have HK2 : Aside0 ((L.length + 1) * 16 ≤ 140737488355328) := ⟨by have := HN.out; omega⟩
      have HK3 : Aside0 (w.heap.size + 1 + 1 + 1 + 1 ≤ W.heap.size) := ⟨by have := bs.lt; omega⟩
      have HBW := Aside0.mk hB
      obtain ⟨lg', hlg'⟩ : ∃ lg', (lg || decide (27 < (x.2.size : Int))) = lg' := ⟨_, rfl⟩
      rw [hlg'] at HL1
      obtain ⟨s1, s2, s3, s4, s5, s6, s7⟩ := spl_long (base := w.heap.size) lg' hR hP bl bs hrow (by omega) (by omega) (by omega) (by omega) (by omega)
      have hcl := bl.cell
      have hfl := bl.frozen
      have hcp := spb_cell s2 1 v rfl
      have HR1 := Aside0.mk s1
      have HP1 := Aside0.mk s2
      have HS3 := Aside0.mk s3
      have HS4 := Aside0.mk s4
      have HS5 := Aside0.mk s5
      have HS6 := Aside0.mk s6
      have HS7 := Aside0.mk s7
      have HBS := Aside0.mk bs
      have HSZ : Aside0 (w.heap.size + 1 + 1 + 1 + 1 ≤ (W.setCell ⟨w.heap.size + 1, 0, none⟩ (.bool lg')).heap.size) := ⟨Nat.le_trans HK3.out s6.size⟩
      have hd : lg = false → decide (27 < (x.2.size : Int)) = lg' := by
        intro e
        rw [← hlg', e]
        rfl
      have ht : lg = true → true = lg' := by
        intro e
        rw [← hlg', e]
        rfl
      clear hR hP bl bs hrow hB hL hLl hmap hlg hlg' hlt s1 s2 s3 s4 s5 s6 s7
      cases lg with
      | true =>
        obtain rfl := ht rfl
        clear ht hd
        gi_wp2_with (gi_at_builtin; refine wpListIn_append_own _ rfl _ _ 22 rfl (w.heap.size + 1 + 1 + 1 + 1) 9 i0 (.string ⟨#[]⟩) 1 16 Tryd.underlying22 hi hz0 hz1 hz2 rfl (by decide) _ _ _ rfl (HS5.out.alloc _) ⟨W.heap.size, 0, none⟩ 1 1 [.string x.2] rfl rfl ?c0 (by simp [Value.oneCell']) ?c1 ?c2 ?c3 ?_; (case c0 => intro j u hj; have := cell_one_new (W.setCell ⟨w.heap.size + 1, 0, none⟩ (.bool true)) (.string x.2) 9 j u hj; simpa using this); (case c1 => exact HK1.out); (case c2 => exact HK2.out); (case c3 => have := HSZ.out; simp at this ⊢; omega); intro v' w2 hown' hgrow _; obtain ⟨g', cap', rfl⟩ := ownsRow_succ hown'; obtain ⟨q1, q2, q3, q4, q5, q6, q7, q8⟩ := spl_step (base := w.heap.size) HR1.out HP1.out HS3.out HS4.out HS5.out (by omega) (by omega) (by omega) (by omega) (by omega) (by omega) (by omega) (by omega) HSZ.out hown' hgrow; have hc1 := spb_cell q1 1 v rfl; have hf1 := spb_frozen q1 1)
        exact ⟨(HS6.out.trans q7).from _, box_kp HBS.out q5, ⟨_, q2, q3, by rw [HL1.out]; exact q4, q5, by rw [HM.out]; simpa using q6, HBW.out.trans (HS7.out.trans q8)⟩⟩
      | false =>
        replace hd := hd rfl
        clear ht
        gi_wp2_with (gi_at_builtin; refine wpListIn_append_own _ rfl _ _ 22 rfl (w.heap.size + 1 + 1 + 1 + 1) 9 i0 (.string ⟨#[]⟩) 1 16 Tryd.underlying22 hi hz0 hz1 hz2 rfl (by decide) _ _ _ rfl (HS5.out.alloc _) ⟨W.heap.size, 0, none⟩ 1 1 [.string x.2] rfl rfl ?c0 (by simp [Value.oneCell']) ?c1 ?c2 ?c3 ?_; (case c0 => intro j u hj; have := cell_one_new (W.setCell ⟨w.heap.size + 1, 0, none⟩ (.bool lg')) (.string x.2) 9 j u hj; simpa using this); (case c1 => exact HK1.out); (case c2 => exact HK2.out); (case c3 => have := HSZ.out; simp at this ⊢; omega); intro v' w2 hown' hgrow _; obtain ⟨g', cap', rfl⟩ := ownsRow_succ hown'; obtain ⟨q1, q2, q3, q4, q5, q6, q7, q8⟩ := spl_step (base := w.heap.size) HR1.out HP1.out HS3.out HS4.out HS5.out (by omega) (by omega) (by omega) (by omega) (by omega) (by omega) (by omega) (by omega) HSZ.out hown' hgrow; have hc1 := spb_cell q1 1 v rfl; have hf1 := spb_frozen q1 1)
        exact ⟨(HS6.out.trans q7).from _, box_kp HBS.out q5, ⟨_, q2, q3, by rw [HL1.out]; exact q4, q5, by rw [HM.out]; simpa using q6, HBW.out.trans (HS7.out.trans q8)⟩⟩
    case done =>
      rintro D ys W hD hys HO hK
      have hys' : ys.map (·.2) = namesB a0 := hys
      simp only [hys'] at HO
      clear hys hys'
      obtain ⟨v, hR, hP, bl, bs, hrow, hB⟩ := HO
      have HH2 := HH.out
      clear HH
      have hcl := bl.cell
      have hcp0 := spb_cell hP 0 _ rfl
      have hcp1 := spb_cell hP 1 _ rfl
      have hcp2 := spb_cell hP 2 _ rfl
      have hfp := spb_frozen hP
      have hcr0 := spb_cell hR 0 _ rfl
      have hcr1 := spb_cell hR 1 _ rfl
      have hcr2 := spb_cell hR 2 _ rfl
      have hfr := spb_frozen hR
      have HRW := Aside0.mk hrow
      have HBW := Aside0.mk hB
      have HD2 := Aside0.mk hD
      have HRb := Aside0.mk hR
      have HPb := Aside0.mk hP
      clear hrow hB hD hR hP bs
      cases hlong : longB a0 (namesB a0) with
      | true =>
        rw [hlong] at hcl
        rw [if_pos hlong] at HH2
        obtain ⟨rfl, rfl, rfl, rfl⟩ : false = r1 ∧ [] = r2 ∧ false = r3 ∧ 36 = r4 := by simpa using HH2
        clear HH2 bl hlong
        gi_wp2
        obtain ⟨e0, e1, e2, e3⟩ := spl_fill (a' := .bool false) (b' := .slice none 0 0) (c' := .bool false) HRb.out hK (by have := HD2.out; simp at this; omega)
        refine ⟨by simp, .inl ⟨_, _, rfl, run_takeDeferred e0, ?_⟩⟩
        refine ⟨.tuple #[.agg #[.bool false, .slice none 0 0, .bool false], .int .i64 36], by simp [results, Tryd.results7, go_sem, e1, e2, e3], _, rfl, Kd.R_nil _ _ _ _ _, ?_⟩
        exact spl_below HBW.out (Nat.le_refl _) (by have := HD2.out; simp at this; omega)
      | false =>
        rw [hlong] at hcl
        rw [if_neg (by rw [hlong]; simp)] at HH2
        obtain ⟨q, hq⟩ : ∃ q, Lib.indexByte a0.data.toList 0 = q := ⟨_, rfl⟩
        rw [hq] at HH2
        have HQ := Aside0.mk hq
        clear hq hlong bl
        by_cases hq0 : 0 ≤ q
        · rw [if_pos hq0] at HH2
          obtain ⟨rfl, rfl, rfl, rfl⟩ : false = r1 ∧ [] = r2 ∧ false = r3 ∧ 22 = r4 := by simpa using HH2
          clear HH2
          have hqd : decide (0 ≤ q) = true := decide_eq_true hq0
          gi_wp2_with (refine ⟨trivial, ?_⟩; gi_at_call 27; refine (callsIn_wide.2 (Tryd.strings_IndexByte a0 0 _)).mono ?_; rintro e w2 ⟨rfl, hw2⟩; subst hw2; rw [show Lib.indexByte a0.data.toList (Int.toNat 0).toUInt8 = q from HQ.out])
          obtain ⟨e0, e1, e2, e3⟩ := spl_fill (a' := .bool false) (b' := .slice none 0 0) (c' := .bool false) HRb.out hK (by have := HD2.out; simp at this; omega)
          refine ⟨by simp, .inl ⟨_, _, rfl, run_takeDeferred e0, ?_⟩⟩
          refine ⟨.tuple #[.agg #[.bool false, .slice none 0 0, .bool false], .int .i64 22], by simp [results, Tryd.results7, go_sem, e1, e2, e3], _, rfl, Kd.R_nil _ _ _ _ _, ?_⟩
          exact spl_below HBW.out (Nat.le_refl _) (by have := HD2.out; simp at this; omega)
        · rw [if_neg hq0] at HH2
          have hqd : decide (0 ≤ q) = false := decide_eq_false hq0
          simp only [Option.some.injEq, Prod.mk.injEq] at HH2
          obtain ⟨g1', g2, g3', g4⟩ := HH2
          have g1 : abs = r1 := by
            rw [← g1', ← HAB.out]
            exact congrArg (fun z : Int => z == 47) (bt_ix a0 0 hpos).symm
          clear g1'
          have G2 := Aside0.mk g2
          have G4 := Aside0.mk g4
          clear g2 g4
          obtain ⟨A1, c1, hv⟩ : ∃ A1 c1, v = .slice A1 (namesB a0).length c1 := by
            rcases HRW.out.2 with ⟨e1, e2⟩ | ⟨g, cap, cur, e1, _⟩
            · exact ⟨none, 0, by rw [e1, e2]⟩
            · exact ⟨_, _, e1⟩
          subst hv
          have hlast : a0.size - 1 < a0.size := by omega
          have hwl : IntKind.i64.wrap ((a0.size : Int) - 1) = ((a0.size - 1 : Nat) : Int) := by
            rw [show (a0.size : Int) - 1 = ((a0.size - 1 : Nat) : Int) by omega]
            exact IntWalk.i64_in _ (by omega)
          by_cases hn : 0 < (namesB a0).length
          · have hnd : decide (0 < ((namesB a0).length : Int)) = true := decide_eq_true (by omega)
            have g3 : (((a0[a0.size - 1]'hlast).toNat : Int) == 47) = r3 := by
              rw [← g3', hnd, Bool.true_and, show (a0.size : Int) - 1 = ((a0.size - 1 : Nat) : Int) by omega, bt_ix a0 _ hlast]
            have G3 := Aside0.mk g3
            have G1 := Aside0.mk g1
            clear g3' g3 g1
            gi_wp2_with (refine ⟨trivial, ?_⟩; gi_at_call 27; refine (callsIn_wide.2 (Tryd.strings_IndexByte a0 0 _)).mono ?_; rintro e w2 ⟨rfl, hw2⟩; subst hw2; rw [show Lib.indexByte a0.data.toList (Int.toNat 0).toUInt8 = q from HQ.out])
            have hrow1 := HRW.out.kept (grown_set _ (w.heap.size + 1 + 1) 2 (.bool (((a0[a0.size - 1]'hlast).toNat : Int) == 47))) (.inr (fun e => own_away HRW.out (by omega) e.symm))
            have hR1 := spb_kept HRb.out (grown_set _ (w.heap.size + 1 + 1) 2 (.bool (((a0[a0.size - 1]'hlast).toNat : Int) == 47))) (by simp; omega)
            have hK1 := (Below.heap_setCell _ ⟨w.heap.size + 1 + 1, 2, none⟩ (.bool (((a0[a0.size - 1]'hlast).toNat : Int) == 47)) D (by have := HD2.out; simp at this ⊢; omega)).trans hK
            obtain ⟨e0, e1, e2, e3⟩ := spl_fill (a' := .bool abs) (b' := .slice A1 (namesB a0).length c1) (c' := .bool (((a0[a0.size - 1]'hlast).toNat : Int) == 47)) hR1 hK1 (by have := HD2.out; simp at this; omega)
            refine ⟨by simp, .inl ⟨_, _, rfl, run_takeDeferred e0, ?_⟩⟩
            refine ⟨.tuple #[.agg #[.bool abs, .slice A1 (namesB a0).length c1, .bool (((a0[a0.size - 1]'hlast).toNat : Int) == 47)], .int .i64 0], by simp [results, Tryd.results7, go_sem, e1, e2, e3], .slice A1 (namesB a0).length c1, ?_, ?_, ?_⟩
            · rw [← G1.out, ← G3.out, ← G4.out]
            · rw [← G2.out]
              exact Kd.R_of_own (spl_row hrow1 (by omega) (by omega) e0) (fun _ _ => trivial)
            · exact spl_below (HBW.out.setCell (p := ⟨w.heap.size + 1 + 1, 2, none⟩) (by simp; omega) _) (Nat.le_refl _) (by have := HD2.out; simp at this; omega)
          · have hnd : decide (0 < ((namesB a0).length : Int)) = false := decide_eq_false (by omega)
            have g3 : false = r3 := by rw [← g3', hnd]; rfl
            have G3 := Aside0.mk g3
            have G1 := Aside0.mk g1
            clear g3' g3 g1
            gi_wp2_with (refine ⟨trivial, ?_⟩; gi_at_call 27; refine (callsIn_wide.2 (Tryd.strings_IndexByte a0 0 _)).mono ?_; rintro e w2 ⟨rfl, hw2⟩; subst hw2; rw [show Lib.indexByte a0.data.toList (Int.toNat 0).toUInt8 = q from HQ.out])
            have hrow1 := HRW.out.kept (grown_set _ (w.heap.size + 1 + 1) 2 (.bool false)) (.inr (fun e => own_away HRW.out (by omega) e.symm))
            have hR1 := spb_kept HRb.out (grown_set _ (w.heap.size + 1 + 1) 2 (.bool false)) (by simp; omega)
            have hK1 := (Below.heap_setCell _ ⟨w.heap.size + 1 + 1, 2, none⟩ (.bool false) D (by have := HD2.out; simp at this ⊢; omega)).trans hK
            obtain ⟨e0, e1, e2, e3⟩ := spl_fill (a' := .bool abs) (b' := .slice A1 (namesB a0).length c1) (c' := .bool false) hR1 hK1 (by have := HD2.out; simp at this; omega)
            refine ⟨by simp, .inl ⟨_, _, rfl, run_takeDeferred e0, ?_⟩⟩
            refine ⟨.tuple #[.agg #[.bool abs, .slice A1 (namesB a0).length c1, .bool false], .int .i64 0], by simp [results, Tryd.results7, go_sem, e1, e2, e3], .slice A1 (namesB a0).length c1, ?_, ?_, ?_⟩
            · rw [← G1.out, ← G3.out, ← G4.out]
            · rw [← G2.out]
              exact Kd.R_of_own (spl_row hrow1 (by omega) (by omega) e0) (fun _ _ => trivial)
            · exact spl_below (HBW.out.setCell (p := ⟨w.heap.size + 1 + 1, 2, none⟩) (by simp; omega) _) (Nat.le_refl _) (by have := HD2.out; simp at this; omega)
    case stop =>
      rintro D c pre W _ _ h _
      exact h.elim
end Go.Proofs.YtajafgcndalieaaDoor.P
