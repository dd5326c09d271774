/- path.clean: the names of a path, without what goes, at every text: its contract in the printed form. -/
import Derived.Test.YtajafgcndalieaaDoorHNames
import Derived.Test.YtajafgcndalieaaDoorPx1
import Derived.Laws.OwnMore
import Derived.WalkSmall
import Derived.Sort.QuietIn
namespace Go.Proofs.YtajafgcndalieaaDoor.P
open Go.RowKit Go.Shelf Go.Proofs.YtajafgcndalieaaDoorW.PrintWords Go.Proofs.YtajafgcndalieaaDoorW.PrintLast Go.Proofs.YtajafgcndalieaaDoorW.PrintMore
set_option linter.unusedVariables false
set_option linter.unusedSimpArgs false
attribute [local go_sem] Oper.semAt_some

/-- one name more -/
def cstep (abs : Bool) (out : List ByteArray) (n : ByteArray) : List ByteArray :=
  if n.toList = [46] then out else if n.toList ≠ [46, 46] then out ++ [n] else
  if out ≠ [] ∧ (out.getLast?.getD default).toList ≠ [46, 46] then out.dropLast else if abs = true then out else out ++ [n]
def cnames (abs : Bool) (l : List ByteArray) : List ByteArray := l.foldl (cstep abs) []
theorem cnames_snoc (abs : Bool) (l : List ByteArray) (n : ByteArray) : cnames abs (l ++ [n]) = cstep abs (cnames abs l) n := by simp [cnames]
theorem cstep_len (abs : Bool) (out : List ByteArray) (n : ByteArray) : (cstep abs out n).length ≤ out.length + 1 := by
  unfold cstep
  repeat' split
  all_goals simp
  all_goals omega
theorem cnames_len (abs : Bool) (l : List ByteArray) : (cnames abs l).length ≤ l.length := by
  unfold cnames
  suffices h : ∀ (l out : List ByteArray), (l.foldl (cstep abs) out).length ≤ out.length + l.length by simpa using h l []
  intro l
  induction l with
  | nil => intro out; simp
  | cons n l ih =>
    intro out
    have := ih (cstep abs out n)
    have := cstep_len abs out n
    simp only [List.foldl_cons, List.length_cons]
    omega

def path_clean.f (a0 : ByteArray) : Option (Bool × List ByteArray) :=
  if a0.size ≤ 9223372036854775800 then (if (namesB a0).length * 16 ≤ 140737488355328 then (strings_HasPrefix.f a0 ⟨#[47]⟩).bind fun b => some (b, cnames b (namesB a0)) else none) else none

def OutIs (base b2 Bo Ba Bs : Nat) (w : World) (s : ByteArray) (abs : Bool) (l : List ByteArray) (W : World) : Prop :=
  ∃ v, Boxed W Bo 22 v ∧ Boxed W Ba 4 (.bool abs) ∧ Boxed W Bs 9 (.string s) ∧ W.ownsRow b2 9 1 v l.length (l.map Value.string) ∧ Below base w W
theorem OutIs.own (base b2 Bo Ba Bs B : Nat) (w : World) (s : ByteArray) (abs : Bool) (g : List (Int × ByteArray) → List ByteArray) (hB : base ≤ B) (hw : base ≤ w.heap.size) : OwnFrom B (fun pre W => OutIs base b2 Bo Ba Bs w s abs (g pre) W) := by
  rintro pre W W' row ⟨v, h1, h2, h3, h4, h5⟩ hg hr
  have hne : ∀ {Bx : Nat} {t : TypeId} {u : Value}, Boxed W Bx t u → some Bx ≠ row := by
    intro Bx t u hb e
    obtain ⟨_, o, ho, hc⟩ := hr Bx e.symm
    rw [show W.heap[Bx]? = _ from hb] at ho
    cases ho
    cases hc
  refine ⟨v, h1.kept hg (hne h1), h2.kept hg (hne h2), h3.kept hg (hne h3), h4.kept hg ?_, ?_⟩
  · rcases h4.2 with ⟨rfl, _⟩ | ⟨g, cap, cur, rfl, _, hgb, _⟩
    · exact .inl rfl
    · refine .inr fun e' => ?_
      obtain ⟨_, o, ho, hc⟩ := hr g (by simpa [Value.ownBlock] using e'.symm)
      rw [hgb] at ho
      cases ho
      cases hc
  · exact h5.grown hg (Nat.le_trans hw h5.size) (fun k e => Nat.le_trans hB (hr k e).1)

theorem own_away {W : World} {b2 B e size k : Nat} {v : Value} {xs : List Value} (h : W.ownsRow b2 e size v k xs) (hB : B < b2) : some B ≠ v.ownBlock := by
  intro e'
  have := own_base h B e'.symm
  omega
theorem app_step {W w2 : World} {base b2 Bo Ba Bs k m t ta ts e size : Nat} {v v' ua us : Value} {xs ys : List Value} {tmp : Obj}
    (bo : Boxed W Bo t v) (ba : Boxed W Ba ta ua) (bs : Boxed W Bs ts us) (hrow : W.ownsRow b2 e size v k xs) (h1 : Bo < b2) (h2 : Ba < b2) (h3 : Bs < b2) (h4 : base ≤ Bo) (h5 : Bo ≠ Ba) (h6 : Bo ≠ Bs) (h7 : b2 ≤ W.heap.size)
    (hown' : w2.ownsRow b2 e size v' m ys) (hgrow : (W.alloc tmp).grownBy w2 v.ownBlock) :
    Boxed w2 Bo t v ∧ Boxed (w2.setCell ⟨Bo, 0, none⟩ v') Bo t v' ∧ Boxed (w2.setCell ⟨Bo, 0, none⟩ v') Ba ta ua ∧ Boxed (w2.setCell ⟨Bo, 0, none⟩ v') Bs ts us ∧ (w2.setCell ⟨Bo, 0, none⟩ v').ownsRow b2 e size v' m ys ∧ KeepsOthers W (w2.setCell ⟨Bo, 0, none⟩ v') ∧ Below base W (w2.setCell ⟨Bo, 0, none⟩ v') := by
  have kb : ∀ {B tb : Nat} {u : Value}, Boxed W B tb u → B < b2 → Boxed w2 B tb u := fun hb hlt => (hb.alloc tmp).kept hgrow (own_away hrow hlt)
  have kc : ∀ {B tb : Nat} {u : Value}, Boxed W B tb u → B < b2 → Bo ≠ B → Boxed (w2.setCell ⟨Bo, 0, none⟩ v') B tb u := fun hb hlt hne => (kb hb hlt).kept (grownBy_setCell' w2 Bo v') (fun e => hne (Option.some.inj e).symm)
  refine ⟨kb bo h1, (kb bo h1).set v', kc ba h2 h5, kc bs h3 h6, hown'.kept (grownBy_setCell' w2 Bo v') (.inr (fun e => own_away hown' h1 e.symm)), ?_, ?_⟩
  · refine ((KeepsOthers.alloc W tmp).trans (KeepsOthers.of_grownBy hgrow fun j o ej hj => ?_)).trans (KeepsOthers.setCell _ _ _)
    rcases (hrow.alloc tmp).2 with ⟨rfl, _⟩ | ⟨g, cap, cur, rfl, _, hgb, _⟩
    · simp [Value.ownBlock] at ej
    · obtain rfl : g = j := by simpa [Value.ownBlock] using ej
      rw [hgb] at hj; cases hj; rfl
  · refine (((Below.refl base W).alloc (by omega) tmp).grown hgrow (by simp; omega) fun j ej => ?_).setCell (p := ⟨Bo, 0, none⟩) h4 v'
    have := own_base hrow j ej
    omega
theorem set_step {W : World} {base b2 Bo Ba Bs k t ta ts e size : Nat} {v v' ua us : Value} {xs : List Value}
    (bo : Boxed W Bo t v) (ba : Boxed W Ba ta ua) (bs : Boxed W Bs ts us) (hrow : W.ownsRow b2 e size v' k xs) (h1 : Bo < b2) (h4 : base ≤ Bo) (h5 : Bo ≠ Ba) (h6 : Bo ≠ Bs) :
    Boxed (W.setCell ⟨Bo, 0, none⟩ v') Bo t v' ∧ Boxed (W.setCell ⟨Bo, 0, none⟩ v') Ba ta ua ∧ Boxed (W.setCell ⟨Bo, 0, none⟩ v') Bs ts us ∧ (W.setCell ⟨Bo, 0, none⟩ v').ownsRow b2 e size v' k xs ∧ KeepsOthers W (W.setCell ⟨Bo, 0, none⟩ v') ∧ Below base W (W.setCell ⟨Bo, 0, none⟩ v') :=
  ⟨bo.set v', ba.kept (grownBy_setCell' W Bo v') (fun e => h5 (Option.some.inj e).symm), bs.kept (grownBy_setCell' W Bo v') (fun e => h6 (Option.some.inj e).symm), hrow.kept (grownBy_setCell' W Bo v') (.inr (fun e => own_away hrow h1 e.symm)), KeepsOthers.setCell _ _ _, (Below.refl base W).setCell (p := ⟨Bo, 0, none⟩) h4 v'⟩
theorem box_kp {W W' : World} {B t : Nat} {u : Value} (h : Boxed W B t u) (h' : Boxed W' B t u) : KpBox B W W' := fun v hv => by
  rw [h.cell] at hv
  rw [h'.cell]
  exact hv

set_option maxRecDepth 100000 in
set_option maxHeartbeats 4000000 in
theorem path_clean.calls (a0 : ByteArray) (r1 : Bool) (r2 : List ByteArray) (w : World) (h : path_clean.f a0 = some (r1, r2)) :
    Calls Tryd.prog 33 #[.string a0] w fun e w' => ∃ v1_ : Value, e = .returned (.tuple #[.bool r1, v1_]) ∧ Kd.R Kd.string 9 w' w.heap.size (fun _ => True) v1_ r2 ∧ Below w.heap.size w w' := by
  unfold path_clean.f at h
  split at h
  case isFalse => cases h
  rename_i hs
  split at h
  case isFalse => cases h
  rename_i hN
  obtain ⟨abs, hp, h⟩ := Option.bind_eq_some_iff.mp h
  obtain ⟨rfl, rfl⟩ := Prod.mk.inj (Option.some.inj h)
  clear h
  have HP := Aside0.mk hp
  have HN := Aside0.mk hN
  clear hp hN
  obtain ⟨i0, hi, hz0, hz1, hz2⟩ := info_parts info9
  refine (callsIn_wide (n := 5)).1 ?_
  have hro : Fence.wide.round = none := rfl
  refine callsIn_of_wp_marks Tryd.func33 rfl trivial ?_ hro
  simp only [Tryd.ntmps33, List.size_toArray, List.length_cons, List.length_nil, Nat.reduceAdd, Nat.reduceSub, Array.replicate_succ, Array.replicate_zero, List.push_toArray, List.append_toArray, List.nil_append, List.cons_append]
  gi_wp2_with (first | (refine ⟨trivial, ?_⟩; gi_at_call 46; refine (callsIn_wide.2 (strings_HasPrefix.calls _ _ _ _ HP.out)).mono ?_; rintro e w1 ⟨rfl, hd⟩; have HD := Aside0.mk hd.below; clear hd) | (refine ⟨trivial, ?_⟩; gi_at_call 26; refine (path_names.in_ Fence.wide _ trivial rfl _ _).mono ?_; rintro e w1 ⟨rfl, rfl⟩))
  have hL0 : Below w.heap.size w ((w1.alloc (.cells #[.bool abs] 4)).alloc (.cells #[.slice none 0 0] 22)) := (HD.out.alloc HD.out.size _).alloc (by have := HD.out.size; simp; omega) _
  have bA := Boxed.new w1 4 (.bool abs)
  have bO := Boxed.new (w1.alloc (.cells #[.bool abs] 4)) 22 (.slice none 0 0)
  have bS := Boxed.new ((w1.alloc (.cells #[.bool abs] 4)).alloc (.cells #[.slice none 0 0] 22)) 9 (.string a0)
  have hL1 : Below w.heap.size w (((w1.alloc (.cells #[.bool abs] 4)).alloc (.cells #[.slice none 0 0] 22)).alloc (.cells #[.string a0] 9)) := hL0.alloc (by have := HD.out.size; simp; omega) _
  simp only [World.size_alloc] at bO bS
  have hS0 : OutIs w.heap.size (w1.heap.size + 1 + 1 + 1) (w1.heap.size + 1) w1.heap.size (w1.heap.size + 1 + 1) w a0 abs (cnames abs (([] : List (Int × ByteArray)).map (·.2))) (((w1.alloc (.cells #[.bool abs] 4)).alloc (.cells #[.slice none 0 0] 22)).alloc (.cells #[.string a0] 9)) :=
    ⟨_, bO.alloc _, (bA.alloc _).alloc _, bS, World.ownsRow_nil _ _ _ _, hL1⟩
  have hsz := HD.out.size
  refine wpIn_rangeFunc_ownG hro (by omega) (gf := 41) (lb := #[.pointer (some ⟨w1.heap.size + 1 + 1, 0, none⟩)]) rfl trivial (enters_of Tryd.func41 (by kernel_rfl) rfl)
    (path_names1.stops Fence.wide (5 - 1) trivial rfl (by omega) _ a0 hs _ (by simp) bS.cell) KpBox.t (fun W l o o' _ hl ho _ => KpBox.b W l o o' hl ho) (Below.refl _ _) (fun _ => rfl)
    (fun pre W => OutIs w.heap.size (w1.heap.size + 1 + 1 + 1) (w1.heap.size + 1) w1.heap.size (w1.heap.size + 1 + 1) w a0 abs (cnames abs (pre.map (·.2))) W)
    (fun _ _ _ => False)
    (OutIs.own _ _ _ _ _ _ w a0 abs (fun pre => cnames abs (pre.map (·.2))) (by simp; omega) (Nat.le_refl _))
    (fun _ _ _ _ _ hs _ _ => hs)
    hS0
    (fun x => { tmps := #[.string a0, undef, .bool false, .slice none 0 0, .pointer (some ⟨w1.heap.size, 0, none⟩), .pointer (some ⟨w1.heap.size + 1, 0, none⟩), undef, .string x.2, .string a0, .bool abs, .string a0, .func (.func 41) #[] #[.pointer (some ⟨w1.heap.size + 1 + 1, 0, none⟩)], .int .i64 x.1, .string x.2, undef, undef, undef, undef, undef, undef, undef, undef, undef, undef, undef, undef, undef, undef, undef, undef, undef, undef, undef, undef, undef, undef, undef, undef, undef, undef, undef, undef, undef, undef, undef, undef, undef, undef, undef, undef], defers := [] }) ?assign ?body ?done ?stop
  case assign =>
    intro l x W K hK
    gi_wp2
    exact hK
  case body =>
    rintro l pre x W HO hlt
    obtain ⟨v, bo, ba, bs, hrow, hB⟩ := HO
    obtain ⟨L, hL⟩ : ∃ L, L = cnames abs (pre.map (·.2)) := ⟨_, rfl⟩
    rw [← hL] at hrow
    have hLl : L.length ≤ pre.length := by
      rw [hL]
      simpa using cnames_len abs (pre.map (·.2))
    have hmap : (pre ++ [x]).map (·.2) = pre.map (·.2) ++ [x.2] := by simp
    have HM : Aside0 (cnames abs ((pre ++ [x]).map (·.2)) = cstep abs L x.2) := ⟨by rw [hmap, cnames_snoc, hL]⟩
    have HK1 : Aside0 (L.length + 1 ≤ maxLen) := ⟨by have := HN.out; unfold maxLen; omega⟩
    have HK2 : Aside0 ((L.length + 1) * 16 ≤ 140737488355328) := ⟨by have := HN.out; omega⟩
    have HK3 : Aside0 (w1.heap.size + 1 + 1 + 1 ≤ W.heap.size) := ⟨by have := bs.lt; omega⟩
    have HBW := Aside0.mk hB
    clear hL hmap hB hLl hlt
    have hco := bo.cell
    have hca := ba.cell
    by_cases h1 : x.2.toList = [46]
    · have b1 : (x.2.toList == [46]) = true := beq_iff_eq.mpr h1
      have HS : Aside0 (cstep abs L x.2 = L) := ⟨by unfold cstep; rw [if_pos h1]⟩
      clear h1
      gi_wp2
      exact ⟨KeepsFrom.refl _ _, fun _ h => h, ⟨v, bo, ba, bs, by rw [HM.out, HS.out]; exact hrow, HBW.out⟩⟩
    · have b1 : (x.2.toList == [46]) = false := beq_eq_false_iff_ne.mpr h1
      by_cases h2 : x.2.toList = [46, 46]
      · have b2 : (!x.2.toList == [46, 46]) = false := by rw [beq_iff_eq.mpr h2]; rfl
        by_cases h3 : L ≠ [] ∧ (L.getLast?.getD default).toList ≠ [46, 46]
        · obtain ⟨hne, hla⟩ := h3
          have HS : Aside0 (cstep abs L x.2 = L.dropLast) := ⟨by unfold cstep; rw [if_neg h1, if_neg (by simpa using h2), if_pos ⟨hne, hla⟩]⟩
          obtain ⟨ys, y, rfl⟩ : ∃ ys y, L = ys ++ [y] := ⟨L.dropLast, L.getLast hne, (List.dropLast_concat_getLast hne).symm⟩
          rw [List.dropLast_concat] at HS
          simp only [List.getLast?_concat, Option.getD_some] at hla
          have b3 : (!y.toList == [46, 46]) = true := by rw [beq_eq_false_iff_ne.mpr hla]; rfl
          have hl1 : (ys ++ [y]).length = ys.length + 1 := by simp
          rw [hl1] at hrow HK1 HK2
          rw [List.map_append] at hrow
          obtain ⟨g, cap, rfl⟩ := ownsRow_succ hrow
          have hcap : ys.length + 1 ≤ cap ∧ cap ≤ maxLen := by
            rcases hrow.2 with ⟨e, _⟩ | ⟨g', cap', cur, e, _, _, q1, q2, _⟩
            · cases e
            · cases e
              exact ⟨q1, q2⟩
          have hcell := hrow.cellAt ys.length (by omega)
          rw [List.getElem?_append_right (by simp)] at hcell
          simp only [List.length_map, Nat.sub_self, List.map_cons, List.map_nil, List.getElem?_cons_zero] at hcell
          have hpop := ownsRow_pop (by simp) hrow
          have HPOP := Aside0.mk hpop
          have p1 : (0 : Int) < ((ys.length + 1 : Nat) : Int) := by omega
          have hw : IntKind.i64.wrap (((ys.length + 1 : Nat) : Int) - 1) = (ys.length : Int) := by
            rw [show ((ys.length + 1 : Nat) : Int) - 1 = (ys.length : Int) by omega]
            exact IntWalk.i64_in _ (by have := HK1.out; unfold maxLen at this; omega)
          have hfo := bo.frozen
          have HROW := Aside0.mk hrow
          have HC1 := hcap.1
          have HC2 := hcap.2
          unfold maxLen at HC2
          clear h1 h2 hne hla hpop hrow hl1 hcap
          gi_wp2
          obtain ⟨q2, q3, q4, q5, q6, q7⟩ := set_step (base := w.heap.size) bo ba bs HPOP.out (by omega) (by omega) (by omega) (by omega)
          exact ⟨q6.from _, box_kp bs q4, ⟨_, q2, q3, q4, by rw [HM.out, HS.out]; simpa using q5, HBW.out.trans q7⟩⟩
        · have HX1 := Aside0.mk h1
          have HX2 := Aside0.mk h2
          have HX3 := Aside0.mk h3
          by_cases hne : L = []
          · subst hne
            have HROW := Aside0.mk hrow
            rcases hrow.2 with ⟨rfl, _⟩ | ⟨g, cap, cur, rfl, _⟩
            all_goals
              clear h1 h2 h3 hrow
              cases abs with
              | true =>
                have HS : Aside0 (cstep true [] x.2 = []) := ⟨by unfold cstep; rw [if_neg HX1.out, if_neg (by simpa using HX2.out), if_neg HX3.out, if_pos rfl]⟩
                gi_wp2
                exact ⟨KeepsFrom.refl _ _, fun _ h => h, ⟨_, bo, ba, bs, by rw [HM.out, HS.out]; exact HROW.out, HBW.out⟩⟩
              | false =>
                have HS : Aside0 (cstep false [] x.2 = [] ++ [x.2]) := ⟨by unfold cstep; rw [if_neg HX1.out, if_neg (by simpa using HX2.out), if_neg HX3.out, if_neg (by simp)]⟩
                gi_wp2_with (gi_at_builtin; refine wpListIn_append_own _ rfl _ _ 22 rfl (w1.heap.size + 1 + 1 + 1) 9 i0 (.string ⟨#[]⟩) 1 16 Tryd.underlying22 hi hz0 hz1 hz2 rfl (by decide) _ _ _ rfl (HROW.out.alloc _) ⟨W.heap.size, 0, none⟩ 1 1 [.string x.2] rfl rfl (cell_one_new _ _ _) (by simp [Value.oneCell']) ?c1 ?c2 ?c3 ?_; (case c1 => exact HK1.out); (case c2 => exact HK2.out); (case c3 => have := HK3.out; simp; omega); intro v' w2 hown' hgrow _; obtain ⟨g', cap', rfl⟩ := ownsRow_succ hown'; obtain ⟨q1, q2, q3, q4, q5, q6, q7⟩ := app_step (base := w.heap.size) bo ba bs HROW.out (by omega) (by omega) (by omega) (by omega) (by omega) (by omega) HK3.out hown' hgrow; have hc1 := q1.cell; have hf1 := q1.frozen)
                exact ⟨q6.from _, box_kp bs q4, ⟨_, q2, q3, q4, by rw [HM.out, HS.out]; simpa using q5, HBW.out.trans q7⟩⟩
          · have hla : (L.getLast?.getD default).toList = [46, 46] := by
              by_cases e : (L.getLast?.getD default).toList = [46, 46]
              · exact e
              · exact absurd ⟨hne, e⟩ h3
            have HROW := Aside0.mk hrow
            have hLe := (List.dropLast_concat_getLast hne).symm
            obtain ⟨ys, hys⟩ : ∃ ys, ys = L.dropLast := ⟨_, rfl⟩
            obtain ⟨y, hy⟩ : ∃ y, y = L.getLast hne := ⟨_, rfl⟩
            rw [← hys, ← hy] at hLe
            have hla2 : y.toList = [46, 46] := by
              rw [hLe] at hla
              simpa using hla
            have b3 : (!y.toList == [46, 46]) = false := by rw [beq_iff_eq.mpr hla2]; rfl
            have hl1 : L.length = ys.length + 1 := by rw [hLe]; simp
            have hrow2 := hrow
            rw [hl1, hLe, List.map_append] at hrow2
            obtain ⟨g, cap, rfl⟩ := ownsRow_succ hrow2
            have hcap : ys.length + 1 ≤ cap ∧ cap ≤ maxLen := by
              rcases hrow2.2 with ⟨e, _⟩ | ⟨g', cap', cur, e, _, _, q1, q2, _⟩
              · cases e
              · cases e
                exact ⟨q1, q2⟩
            have HC1 := hcap.1
            have HC2 := hcap.2
            unfold maxLen at HC2
            clear hcap
            have hcell := hrow2.cellAt ys.length (by omega)
            rw [List.getElem?_append_right (by simp)] at hcell
            simp only [List.length_map, Nat.sub_self, List.map_cons, List.map_nil, List.getElem?_cons_zero] at hcell
            have p1 : (0 : Int) < ((ys.length + 1 : Nat) : Int) := by omega
            have hw : IntKind.i64.wrap (((ys.length + 1 : Nat) : Int) - 1) = (ys.length : Int) := by
              rw [show ((ys.length + 1 : Nat) : Int) - 1 = (ys.length : Int) by omega]
              exact IntWalk.i64_in _ (by have := HK1.out; unfold maxLen at this; omega)
            clear h1 h2 h3 hrow hrow2 hla hla2 hLe hys hy hne hl1
            cases abs with
            | true =>
              have HS : Aside0 (cstep true L x.2 = L) := ⟨by unfold cstep; rw [if_neg HX1.out, if_neg (by simpa using HX2.out), if_neg HX3.out, if_pos rfl]⟩
              gi_wp2
              exact ⟨KeepsFrom.refl _ _, fun _ h => h, ⟨_, bo, ba, bs, by rw [HM.out, HS.out]; exact HROW.out, HBW.out⟩⟩
            | false =>
              have HS : Aside0 (cstep false L x.2 = L ++ [x.2]) := ⟨by unfold cstep; rw [if_neg HX1.out, if_neg (by simpa using HX2.out), if_neg HX3.out, if_neg (by simp)]⟩
              gi_wp2_with (gi_at_builtin; refine wpListIn_append_own _ rfl _ _ 22 rfl (w1.heap.size + 1 + 1 + 1) 9 i0 (.string ⟨#[]⟩) 1 16 Tryd.underlying22 hi hz0 hz1 hz2 rfl (by decide) _ _ _ rfl (HROW.out.alloc _) ⟨W.heap.size, 0, none⟩ 1 1 [.string x.2] rfl rfl (cell_one_new _ _ _) (by simp [Value.oneCell']) ?c1 ?c2 ?c3 ?_; (case c1 => exact HK1.out); (case c2 => exact HK2.out); (case c3 => have := HK3.out; simp; omega); intro v' w2 hown' hgrow _; obtain ⟨g', cap', rfl⟩ := ownsRow_succ hown'; obtain ⟨q1, q2, q3, q4, q5, q6, q7⟩ := app_step (base := w.heap.size) bo ba bs HROW.out (by omega) (by omega) (by omega) (by omega) (by omega) (by omega) HK3.out hown' hgrow; have hc1 := q1.cell; have hf1 := q1.frozen)
              exact ⟨q6.from _, box_kp bs q4, ⟨_, q2, q3, q4, by rw [HM.out, HS.out]; simpa using q5, HBW.out.trans q7⟩⟩
      · have b2 : (!x.2.toList == [46, 46]) = true := by rw [beq_eq_false_iff_ne.mpr h2]; rfl
        have HS : Aside0 (cstep abs L x.2 = L ++ [x.2]) := ⟨by unfold cstep; rw [if_neg h1, if_pos h2]⟩
        clear h1 h2
        gi_wp2_with (gi_at_builtin; refine wpListIn_append_own _ rfl _ _ 22 rfl (w1.heap.size + 1 + 1 + 1) 9 i0 (.string ⟨#[]⟩) 1 16 Tryd.underlying22 hi hz0 hz1 hz2 rfl (by decide) _ _ _ rfl (hrow.alloc _) ⟨W.heap.size, 0, none⟩ 1 1 [.string x.2] rfl rfl (cell_one_new _ _ _) (by simp [Value.oneCell']) ?c1 ?c2 ?c3 ?_; (case c1 => exact HK1.out); (case c2 => exact HK2.out); (case c3 => have := HK3.out; simp; omega); intro v' w2 hown' hgrow _; obtain ⟨g', cap', rfl⟩ := ownsRow_succ hown'; obtain ⟨q1, q2, q3, q4, q5, q6, q7⟩ := app_step (base := w.heap.size) bo ba bs hrow (by omega) (by omega) (by omega) (by omega) (by omega) (by omega) HK3.out hown' hgrow; have hc1 := q1.cell; have hf1 := q1.frozen)
        exact ⟨q6.from _, box_kp bs q4, ⟨_, q2, q3, q4, by rw [HM.out, HS.out]; simpa using q5, HBW.out.trans q7⟩⟩
  case done =>
    rintro D ys W hD hys HO hK
    have hys' : ys.map (·.2) = namesB a0 := hys
    have HO' : OutIs w.heap.size (w1.heap.size + 1 + 1 + 1) (w1.heap.size + 1) w1.heap.size (w1.heap.size + 1 + 1) w a0 abs (cnames abs (namesB a0)) W := by
      rw [← hys']
      exact HO
    clear HO hys hys'
    obtain ⟨v, bo, ba, bs, hrow, hB⟩ := HO'
    have hco := bo.cell
    have hca := ba.cell
    have HROW := Aside0.mk hrow
    have HBW := Aside0.mk hB
    have HD2 := Aside0.mk hD
    clear hrow hB hD
    gi_wp2
    gi_quiet (fail)
    gi_wp2
    have hK' : (W.drewN nq).heap[D]? = some (.deferred (some [])) := by
      rw [World.heap_drewN]
      exact hK
    refine ⟨by simp, .inl ⟨_, _, rfl, run_takeDeferred hK', ?_⟩⟩
    refine ⟨.tuple #[.bool abs, v], by simp [results, Tryd.results33, go_sem], v, rfl, ?_, ?_⟩
    · have h1 : (W.drewN nq).ownsRow w.heap.size 9 1 v (cnames abs (namesB a0)).length ((cnames abs (namesB a0)).map Value.string) := own_weaken (show (W.drewN nq).ownsRow _ _ _ _ _ _ from HROW.out) (by have := HD.out.size; omega)
      exact Kd.R_of_own (ownsRow_putObj h1 _ hK' rfl) (fun _ _ => trivial)
    · exact (pw_below_drewN HBW.out nq).trans (belowK_b (w := w) (Nat.le_refl _) (W.drewN nq) D _ _ (by have := HD2.out; simp at this; omega) hK' rfl rfl)
  case stop =>
    rintro D c pre W _ _ h _
    exact h.elim
end Go.Proofs.YtajafgcndalieaaDoor.P
