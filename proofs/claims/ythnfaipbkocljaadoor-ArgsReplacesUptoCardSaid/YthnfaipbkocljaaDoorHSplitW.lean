/- args.Split (no zeros) by hand: a loop that a goto leaves forward inside its round. -/
import Derived.Test.YthnfaipbkocljaaDoorHEnd
import Derived.ScopeJumps
import Derived.WalkMore
import Derived.Deep.LoopGhost
namespace Go.Proofs.YthnfaipbkocljaaDoor.P
open Go.RowKit Go.Proofs.YthnfaipbkocljaaDoorW.PrintWords Go.Proofs.YthnfaipbkocljaaDoorW.PrintLast Go.Proofs.YthnfaipbkocljaaDoorW.PrintMore
set_option linter.unusedVariables false
set_option linter.unusedSimpArgs false
/-- A scope whose gotos lead forward to one label: where the run jumps, it is walked on from the label. -/
theorem wp_scope_fwd {P : Program} {a : Act} {w : World} {Q : Exit → Act → World → Prop} {c rest : Code} (l : Nat) (hf : findLabel c l = some rest)
    (first : c.wp P (Exit.jump l (fun a w => rest.wp P (Exit.noGoto Q) a w) Q) a w) : (Code.scope c).wp P Q a w := by
  refine wp_scope_jumps l (fun a w => rest.wp P (Exit.noGoto Q) a w) (fun _ _ => 0) hf first (fun a w h => ?_)
  refine Code.wp_mono (fun e a w he => ?_) h
  cases e <;> first | exact he | exact (he : False).elim
section
variable {Q : Exit → Act → World → Prop} {J : Act → World → Prop} {l : Nat} {a : Act} {w : World}
theorem exj_normal : Exit.jump l J Q .normal a w = Q .normal a w := rfl
theorem exj_exit (id : Nat) : Exit.jump l J Q (.exit id) a w = Q (.exit id) a w := rfl
theorem exj_ret : Exit.jump l J Q .ret a w = Q .ret a w := rfl
theorem exj_goto : Exit.jump l J Q (.goto l) a w = J a w := by simp [Exit.jump]
end
theorem sp_new (w : World) (o : Obj) : (w.alloc o).heap[w.heap.size]? = some o := by
  show (w.heap.push o)[w.heap.size]? = some o
  rw [Array.getElem?_push, if_pos rfl]
attribute [local go_sem] exj_normal exj_exit exj_ret exj_goto
theorem sp_open {base g : Nat} {w0 W : World} {Wv Dv : Value} {ws : List ByteArray} {wd : List Int} {op : Bool} (b : Bool) (h : W.heap[g]? = some (.cells #[Wv, Dv, .bool op] 83 (0, 0))) (h1 : Kd.R Kd.string 9 W base (fun _ => True) Wv ws) (h2 : Kd.R (Kd.int .u8) 5 W base (fun _ => True) Dv wd) (h3 : Below base w0 W) (h4 : base ≤ g) (h5 : base ≤ W.heap.size) :
    (W.setCell ⟨g, 2, none⟩ (.bool b)).heap[g]? = some (.cells #[Wv, Dv, .bool b] 83 (0, 0)) ∧ Kd.R Kd.string 9 (W.setCell ⟨g, 2, none⟩ (.bool b)) base (fun _ => True) Wv ws ∧ Kd.R (Kd.int .u8) 5 (W.setCell ⟨g, 2, none⟩ (.bool b)) base (fun _ => True) Dv wd ∧ Below base w0 (W.setCell ⟨g, 2, none⟩ (.bool b)) ∧ base ≤ (W.setCell ⟨g, 2, none⟩ (.bool b)).heap.size :=
  ⟨sp_set3 _ 2 h, Kd.R_set h1 h (by intro q hq; revert q hq; simp [Kd.string, Kd.scalar]) 2 _, Kd.R_set h2 h (by intro q hq; revert q hq; simp [Kd.int, Kd.scalar]) 2 _, h3.setCell h4 _, by simpa using h5⟩
mutual
def spGo (b : List Int) : Nat → Nat → List ByteArray → List Int → Bool → Option (List ByteArray)
  | 0, _, _, _, _ => none
  | k + 1, i, ws, wd, op =>
    if i < b.length then
      (if rd b (i : Int) = 32 ∨ rd b (i : Int) = 9 ∨ rd b (i : Int) = 10 then spGo b k (i + 1) (endW op ws wd) [] false
       else if rd b (i : Int) = 39 ∨ rd b (i : Int) = 34 then spQ b k (rd b (i : Int)) (i + 1) ws wd
       else if rd b (i : Int) = 92 then (if i + 1 < b.length then spGo b k (i + 1 + 1) ws (wd ++ [rd b ((i + 1 : Nat) : Int)]) true else none)
       else spGo b k (i + 1) ws (wd ++ [rd b (i : Int)]) true)
    else some (endW op ws wd)
def spQ (b : List Int) : Nat → Int → Nat → List ByteArray → List Int → Option (List ByteArray)
  | 0, _, _, _, _ => none
  | k + 1, c, i, ws, wd =>
    if i < b.length then
      (if rd b (i : Int) = 10 then none else if rd b (i : Int) = c then spGo b k (i + 1) ws wd true else spQ b k c (i + 1) ws (wd ++ [rd b (i : Int)]))
    else none
end
def args_Split.f (l0 : List Int) (z : Bool) : Option (List ByteArray × Int) :=
  if z = true then none else if l0.length ≤ 1000000 then (spGo l0 (2 * l0.length + 2) 0 [] [] false).map (·, 0) else none

set_option maxRecDepth 100000 in
set_option maxHeartbeats 4000000 in
theorem args_Split.calls (A0 : Option Addr) (c0 : Nat) (l0 : List Int) (z : Bool) (r1 : List ByteArray) (r2 : Int) (w : World) (hr0 : Kd.C (Kd.int .u8) w A0 l0.length l0) (hc0 : l0.length ≤ c0) (h : args_Split.f l0 z = some (r1, r2)) :
    Calls Tryd.prog 30 #[.slice A0 l0.length c0, .bool z] w fun e w' => ∃ v1_ : Value, e = .returned (.tuple #[v1_, .int .i64 r2]) ∧ Kd.R Kd.string 9 w' w.heap.size (fun _ => True) v1_ r1 ∧ Below w.heap.size w w' := by
  unfold args_Split.f at h
  cases z with
  | true => simp at h
  | false =>
  simp only [Bool.false_eq_true, if_false] at h
  split at h
  case isFalse => cases h
  rename_i hl
  obtain ⟨r, hr, he⟩ := Option.map_eq_some_iff.1 h
  obtain ⟨rfl, rfl⟩ : r = r1 ∧ 0 = r2 := by simpa using he
  have HR0 := Aside0.mk hr0
  have HC0 := Aside0.mk hc0
  have HL := Aside0.mk hl
  have HH := Aside0.mk hr
  clear hr0 hc0 hl h hr he
  go_enter Tryd.func30, Tryd.ntmps30
  go_wp2
  go_step3
  go_wp2
  go_step3
  go_wp2
  go_loopg [7, 8] (2 * l0.length + 2) (fun kq v7 v8 w' => ∃ (i : Nat) (ws : List ByteArray) (wd : List Int) (op : Bool), v7 = .int .i64 (i : Int) ∧ Aside0 (spGo l0 kq i ws wd op = some r) ∧ Aside0 (i ≤ l0.length) ∧ Aside0 (ws.length ≤ i) ∧ Aside0 (wd.length ≤ i) ∧ Aside0 (SpIs w.heap.size w.heap.size w w' ws wd op))
  case atStart =>
    refine ⟨0, [], [], false, rfl, HH, ⟨Nat.zero_le _⟩, ⟨by simp⟩, ⟨by simp⟩, ⟨_, _, sp_new w _, Kd.R_nil _ _ _ _ _, Kd.R_nil _ _ _ _ _, (Below.refl _ _).alloc (Nat.le_refl _) _, Nat.le_refl _, by simp⟩⟩
  case round =>
    clear HH
    obtain ⟨i, ws, wd, op, rfl, HH, HI, HW, HD, HS⟩ := hrel
    cases gk with
    | zero => exact absurd HH.out (by simp [spGo])
    | succ k =>
    have hH := HH.out
    rw [spGo] at hH
    clear HH
    have hsz : (ws.length + 1) * 16 ≤ 140737488355328 := by have := HI.out; have := HW.out; have := HL.out; omega
    by_cases hi : i < l0.length
    · rw [if_pos hi] at hH
      have p1 : (0 : Int) ≤ (i : Int) := by omega
      have p2 : (i : Int) < (l0.length : Int) := by omega
      obtain ⟨Wv, Dv, hb, hW, hD, hB, hg, hs⟩ := HS.out
      obtain ⟨ad, e, hx⟩ := Kd.at_int (Kd.C_below HR0.out hB) (i : Int) p1 p2
      cases e
      rw [Int.toNat_natCast] at hx
      obtain ⟨c, hc⟩ : ∃ c, c = rd l0 (i : Int) := ⟨_, rfl⟩
      rw [← hc] at hx hH
      have hwi : (IntKind.i64.wrap ((i : Int) + 1)) = (i : Int) + 1 := (i64_w _).trans (by have := HL.out; unfold wrap64; omega)
      have ci : decide ((i : Int) < (l0.length : Int)) = true := decide_eq_true p2
      replace p1 := eq_true p1
      replace p2 := eq_true p2
      have HWv := Aside0.mk hW
      have HDv := Aside0.mk hD
      have HBv := Aside0.mk hB
      have Hc := Aside0.mk hc
      have HH := Aside0.mk hH
      have Hb := Aside0.mk hb
      clear hW hD hB hc hH hb
      obtain ⟨kb, kW, kD, kB, ks⟩ := sp_open true Hb.out HWv.out HDv.out HBv.out hg hs
      have Kb := Aside0.mk kb
      have KW := Aside0.mk kW
      have KD := Aside0.mk kD
      have KB := Aside0.mk kB
      have c1 := sp_cell Hb.out 1 _ rfl
      have c2 := sp_cell Hb.out 2 _ rfl
      have f2 := sp_frozen Hb.out 2
      have d1 := sp_cell kb 1 _ rfl
      clear kb kW kD kB
      by_cases h32 : c = 32
      · subst h32
        go_wp2
        refine wp_scope_fwd 1 rfl ?_
        go_wp2_with (first | (go_at_call 40; refine (splitter_end.calls w.heap.size w.heap.size w wr ws wd op HS.out hsz).mono ?_; rintro e w2 ⟨rfl, HS2⟩; have HS2 := Aside0.mk HS2))
        rw [exj_exit]
        go_wp2
        go_roundg k
        case measure => omega
        case rel => exact ⟨i + 1, endW op ws wd, [], false, by simp, ⟨by have := HH.out; simpa using this⟩, ⟨by omega⟩, ⟨by have := HW.out; unfold endW; split <;> simp <;> omega⟩, ⟨by simp⟩, HS2⟩
      by_cases h9 : c = 9
      · subst h9
        go_wp2
        refine wp_scope_fwd 1 rfl ?_
        go_wp2_with (first | (go_at_call 40; refine (splitter_end.calls w.heap.size w.heap.size w wr ws wd op HS.out hsz).mono ?_; rintro e w2 ⟨rfl, HS2⟩; have HS2 := Aside0.mk HS2))
        rw [exj_exit]
        go_wp2
        go_roundg k
        case measure => omega
        case rel => exact ⟨i + 1, endW op ws wd, [], false, by simp, ⟨by have := HH.out; simpa using this⟩, ⟨by omega⟩, ⟨by have := HW.out; unfold endW; split <;> simp <;> omega⟩, ⟨by simp⟩, HS2⟩
      by_cases h10 : c = 10
      · subst h10
        go_wp2
        refine wp_scope_fwd 1 rfl ?_
        go_wp2_with (first | (go_at_call 40; refine (splitter_end.calls w.heap.size w.heap.size w wr ws wd op HS.out hsz).mono ?_; rintro e w2 ⟨rfl, HS2⟩; have HS2 := Aside0.mk HS2))
        rw [exj_exit]
        go_wp2
        go_roundg k
        case measure => omega
        case rel => exact ⟨i + 1, endW op ws wd, [], false, by simp, ⟨by have := HH.out; simpa using this⟩, ⟨by omega⟩, ⟨by have := HW.out; unfold endW; split <;> simp <;> omega⟩, ⟨by simp⟩, HS2⟩
      by_cases h39 : c = 39
      · subst h39
        go_wp2
        refine wp_scope_fwd 1 rfl ?_
        go_wp2
        go_step3
        refine ⟨rfl, ?_⟩
        have HQ : Aside0 (spQ l0 k 39 (i + 1) ws wd = some r) := ⟨by have := HH.out; simpa using this⟩
        go_wp2
        go_loopg [7] k (fun kq v7 w' => ∃ (j : Nat) (wd' : List Int), v7 = .int .i64 (j : Int) ∧ Aside0 (spQ l0 kq 39 j ws wd' = some r) ∧ Aside0 (kq ≤ k) ∧ Aside0 (i + 1 ≤ j ∧ j ≤ l0.length) ∧ Aside0 (wd'.length ≤ j) ∧ Aside0 (SpIs w.heap.size w.heap.size w w' ws wd' true))
        case atStart =>
          exact ⟨i + 1, wd, by simp, HQ, ⟨Nat.le_refl _⟩, ⟨Nat.le_refl _, hi⟩, ⟨by have := HD.out; omega⟩, ⟨Wv, Dv, Kb.out, KW.out, KD.out, KB.out, hg, ks⟩⟩
        case round =>
          clear HQ HH
          obtain ⟨j, wd', rfl, HQ, HK, HJ, HD', HS'⟩ := hrel
          cases gk with
          | zero => exact absurd HQ.out (by simp [spQ])
          | succ k2 =>
          have hQ := HQ.out
          rw [spQ] at hQ
          clear HQ hx p1 p2 ci hwi c1 c2 f2 d1 Hb HWv HDv HBv Kb KW KD KB
          by_cases hj : j < l0.length
          · rw [if_pos hj] at hQ
            obtain ⟨Wv2, Dv2, hb2, hW2, hD2, hB2, _, hs2⟩ := HS'.out
            have p1 : (0 : Int) ≤ (j : Int) := by omega
            have p2 : (j : Int) < (l0.length : Int) := by omega
            obtain ⟨ad', e, hx⟩ := Kd.at_int (Kd.C_below HR0.out hB2) (j : Int) p1 p2
            cases e
            rw [Int.toNat_natCast] at hx
            obtain ⟨d, hd⟩ : ∃ d, d = rd l0 (j : Int) := ⟨_, rfl⟩
            rw [← hd] at hx hQ
            have Hd := Aside0.mk hd
            clear hd
            have hwj : (IntKind.i64.wrap ((j : Int) + 1)) = (j : Int) + 1 := (i64_w _).trans (by have := HL.out; unfold wrap64; omega)
            have ci : decide ((j : Int) < (l0.length : Int)) = true := decide_eq_true p2
            have ci2 : ((j : Int) == (l0.length : Int)) = false := by simp; omega
            replace p1 := eq_true p1
            replace p2 := eq_true p2
            have h10 : ¬ d = 10 := fun e => by rw [if_pos e] at hQ; cases hQ
            rw [if_neg h10] at hQ
            have b10 : (d == 10) = false := by simp [h10]
            have b10' : (d != 10) = true := by simp [h10]
            by_cases hdc : d = 39
            · subst hdc
              rw [if_pos rfl] at hQ
              have HQ := Aside0.mk hQ
              clear hQ hb2 hW2 hD2 hB2
              go_wp2
              first | rw [Exit.noGoto_normal] | skip
              go_wp2
              go_roundg k2
              case measure => have := HK.out; omega
              case rel => exact ⟨j + 1, ws, wd', true, by simp, HQ, ⟨by omega⟩, ⟨by have := HW.out; have := HJ.out; omega⟩, ⟨by have := HD'.out; omega⟩, HS'⟩
            · rw [if_neg hdc] at hQ
              have bdc : (d != 39) = true := by simp [hdc]
              have HQ := Aside0.mk hQ
              have Jb := Aside0.mk hb2
              have JW := Aside0.mk hW2
              have JD := Aside0.mk hD2
              have JB := Aside0.mk hB2
              have c1 := sp_cell hb2 1 _ rfl
              have ca1 : (wr.alloc (Obj.cells #[Value.int .u8 d] 5)).cell? ⟨w.heap.size, 1, none⟩ = some Dv2 := sp_cell (sp_alloc hb2 _) 1 _ rfl
              clear hQ hb2 hW2 hD2 hB2
              go_wp2
              go_region_law ((first | rw [show (wr.alloc (Obj.cells #[Value.int .u8 d] 5)).drew = wr.drew.alloc (.cells [Value.int .u8 d].toArray 5) from rfl] | skip); refine Kd.R_append_step (Kd.int .u8) (w0 := w) w.heap.size (by rfl) (.tmp 87) (.tmp 92) 68 5 (.int .u8 0) 1 rfl Tryd.underlying68 sp_info5 rfl (by decide) (by omega) Dv2 wd' d [.int .u8 d] (fun _ => True) (fun _ => False) ?hs ?hx ?hp (fun _ hk => hk.elim) (fun _ _ => trivial) ?hO ?hB ?hbase (by have := HD'.out; have := HJ.out; have := HL.out; omega) ?_; (case hs => rfl); (case hx => rfl); (case hp => rfl); (case hO => (with_reducible repeat (first | apply Kd.R_alloc | apply Kd.R_drewN | apply Kd.R_drew)); exact JD.out); (case hB => exact below_drew JB.out); (case hbase => exact hs2); intro v1 w1 ho hb1 hg1 hat; obtain ⟨c0', f0', HN⟩ := sp_after1 (W := wr.drew) Jb.out (Kd.R_drew JW.out) (Kd.R_drew JD.out) hg hs2 ho hb1 hg1; obtain ⟨A1, n1, cc1, rfl⟩ : ∃ A n c, v1 = .slice A n c := (Kd.R_slice ho).elim fun A h => h.elim fun c h => ⟨A, _, c, h⟩; clear hat ho hb1 hg1)
              all_goals
                go_wp2
                go_roundg k2
                case measure => omega
                case rel => exact ⟨j + 1, wd' ++ [d], by simp, HQ, ⟨by have := HK.out; omega⟩, ⟨by have := HJ.out; omega⟩, ⟨by have := HD'.out; simp; omega⟩, HN⟩
          · rw [if_neg hj] at hQ
            cases hQ
      by_cases h34 : c = 34
      · subst h34
        go_wp2
        refine wp_scope_fwd 1 rfl ?_
        go_wp2
        go_step3
        refine ⟨rfl, ?_⟩
        have HQ : Aside0 (spQ l0 k 34 (i + 1) ws wd = some r) := ⟨by have := HH.out; simpa using this⟩
        go_wp2
        go_loopg [7] k (fun kq v7 w' => ∃ (j : Nat) (wd' : List Int), v7 = .int .i64 (j : Int) ∧ Aside0 (spQ l0 kq 34 j ws wd' = some r) ∧ Aside0 (kq ≤ k) ∧ Aside0 (i + 1 ≤ j ∧ j ≤ l0.length) ∧ Aside0 (wd'.length ≤ j) ∧ Aside0 (SpIs w.heap.size w.heap.size w w' ws wd' true))
        case atStart =>
          exact ⟨i + 1, wd, by simp, HQ, ⟨Nat.le_refl _⟩, ⟨Nat.le_refl _, hi⟩, ⟨by have := HD.out; omega⟩, ⟨Wv, Dv, Kb.out, KW.out, KD.out, KB.out, hg, ks⟩⟩
        case round =>
          clear HQ HH
          obtain ⟨j, wd', rfl, HQ, HK, HJ, HD', HS'⟩ := hrel
          cases gk with
          | zero => exact absurd HQ.out (by simp [spQ])
          | succ k2 =>
          have hQ := HQ.out
          rw [spQ] at hQ
          clear HQ hx p1 p2 ci hwi c1 c2 f2 d1 Hb HWv HDv HBv Kb KW KD KB
          by_cases hj : j < l0.length
          · rw [if_pos hj] at hQ
            obtain ⟨Wv2, Dv2, hb2, hW2, hD2, hB2, _, hs2⟩ := HS'.out
            have p1 : (0 : Int) ≤ (j : Int) := by omega
            have p2 : (j : Int) < (l0.length : Int) := by omega
            obtain ⟨ad', e, hx⟩ := Kd.at_int (Kd.C_below HR0.out hB2) (j : Int) p1 p2
            cases e
            rw [Int.toNat_natCast] at hx
            obtain ⟨d, hd⟩ : ∃ d, d = rd l0 (j : Int) := ⟨_, rfl⟩
            rw [← hd] at hx hQ
            have Hd := Aside0.mk hd
            clear hd
            have hwj : (IntKind.i64.wrap ((j : Int) + 1)) = (j : Int) + 1 := (i64_w _).trans (by have := HL.out; unfold wrap64; omega)
            have ci : decide ((j : Int) < (l0.length : Int)) = true := decide_eq_true p2
            have ci2 : ((j : Int) == (l0.length : Int)) = false := by simp; omega
            replace p1 := eq_true p1
            replace p2 := eq_true p2
            have h10 : ¬ d = 10 := fun e => by rw [if_pos e] at hQ; cases hQ
            rw [if_neg h10] at hQ
            have b10 : (d == 10) = false := by simp [h10]
            have b10' : (d != 10) = true := by simp [h10]
            by_cases hdc : d = 34
            · subst hdc
              rw [if_pos rfl] at hQ
              have HQ := Aside0.mk hQ
              clear hQ hb2 hW2 hD2 hB2
              go_wp2
              first | rw [Exit.noGoto_normal] | skip
              go_wp2
              go_roundg k2
              case measure => have := HK.out; omega
              case rel => exact ⟨j + 1, ws, wd', true, by simp, HQ, ⟨by omega⟩, ⟨by have := HW.out; have := HJ.out; omega⟩, ⟨by have := HD'.out; omega⟩, HS'⟩
            · rw [if_neg hdc] at hQ
              have bdc : (d != 34) = true := by simp [hdc]
              have HQ := Aside0.mk hQ
              have Jb := Aside0.mk hb2
              have JW := Aside0.mk hW2
              have JD := Aside0.mk hD2
              have JB := Aside0.mk hB2
              have c1 := sp_cell hb2 1 _ rfl
              have ca1 : (wr.alloc (Obj.cells #[Value.int .u8 d] 5)).cell? ⟨w.heap.size, 1, none⟩ = some Dv2 := sp_cell (sp_alloc hb2 _) 1 _ rfl
              clear hQ hb2 hW2 hD2 hB2
              go_wp2
              go_region_law ((first | rw [show (wr.alloc (Obj.cells #[Value.int .u8 d] 5)).drew = wr.drew.alloc (.cells [Value.int .u8 d].toArray 5) from rfl] | skip); refine Kd.R_append_step (Kd.int .u8) (w0 := w) w.heap.size (by rfl) (.tmp 87) (.tmp 92) 68 5 (.int .u8 0) 1 rfl Tryd.underlying68 sp_info5 rfl (by decide) (by omega) Dv2 wd' d [.int .u8 d] (fun _ => True) (fun _ => False) ?hs ?hx ?hp (fun _ hk => hk.elim) (fun _ _ => trivial) ?hO ?hB ?hbase (by have := HD'.out; have := HJ.out; have := HL.out; omega) ?_; (case hs => rfl); (case hx => rfl); (case hp => rfl); (case hO => (with_reducible repeat (first | apply Kd.R_alloc | apply Kd.R_drewN | apply Kd.R_drew)); exact JD.out); (case hB => exact below_drew JB.out); (case hbase => exact hs2); intro v1 w1 ho hb1 hg1 hat; obtain ⟨c0', f0', HN⟩ := sp_after1 (W := wr.drew) Jb.out (Kd.R_drew JW.out) (Kd.R_drew JD.out) hg hs2 ho hb1 hg1; obtain ⟨A1, n1, cc1, rfl⟩ : ∃ A n c, v1 = .slice A n c := (Kd.R_slice ho).elim fun A h => h.elim fun c h => ⟨A, _, c, h⟩; clear hat ho hb1 hg1)
              all_goals
                go_wp2
                go_roundg k2
                case measure => omega
                case rel => exact ⟨j + 1, wd' ++ [d], by simp, HQ, ⟨by have := HK.out; omega⟩, ⟨by have := HJ.out; omega⟩, ⟨by have := HD'.out; simp; omega⟩, HN⟩
          · rw [if_neg hj] at hQ
            cases hQ
      by_cases h92 : c = 92
      · subst h92
        by_cases hi1 : i + 1 < l0.length
        · have q1 : (0 : Int) ≤ (i : Int) + 1 := by omega
          have q2 : (i : Int) + 1 < (l0.length : Int) := by omega
          obtain ⟨ad', e, hx2⟩ := Kd.at_int (Kd.C_below HR0.out HBv.out) ((i + 1 : Nat) : Int) (by omega) (by omega)
          cases e
          rw [Int.toNat_natCast] at hx2
          obtain ⟨d, hd⟩ : ∃ d, d = rd l0 ((i + 1 : Nat) : Int) := ⟨_, rfl⟩
          have HQ : Aside0 (spGo l0 k (i + 1 + 1) ws (wd ++ [d]) true = some r) := ⟨by have := HH.out; rw [hd]; simpa [hi1] using this⟩
          rw [← hd] at hx2
          have hx3 : wr.cell? ⟨ad.block, ad.off + (i + 1), none⟩ = some (.int .u8 d) := by simpa [Addr.add] using hx2
          clear hd HH
          have hw2 : (IntKind.i64.wrap ((i : Int) + 1 + 1)) = (i : Int) + 1 + 1 := (i64_w _).trans (by have := HL.out; unfold wrap64; omega)
          have be : ((i : Int) + 1 == (l0.length : Int)) = false := by simp; omega
          replace q1 := eq_true q1
          replace q2 := eq_true q2
          go_wp2
          refine wp_scope_fwd 1 rfl ?_
          go_wp2_with (first | ((with_reducible refine gate_builtin (b := .append) (xs := #[.tmp 56, .tmp 58]) rfl ?_); at_builtin; refine Kd.R_append (Kd.int .u8) (w0 := w) w.heap.size rfl (.tmp 56) (.tmp 58) 68 5 (.int .u8 0) 1 rfl Tryd.underlying68 sp_info5 rfl (by decide) (by omega) Dv wd d [.int .u8 d] (fun _ => True) (fun _ => False) rfl ?hx ?hp (fun _ hk => hk.elim) (fun _ _ => trivial) ?hO ?hB ?hbase ?hl ?_; (case hx => show Value.slice (some ⟨_, 0, none⟩) 1 1 = _; simp); (case hp => rfl); (case hO => exact KD.out); (case hB => exact KB.out); (case hbase => exact ks); (case hl => have := HD.out; have := HI.out; have := HL.out; omega); intro v1 w1 ho hb1 hg1 hat; obtain ⟨c0', f0', HN⟩ := sp_after1 Kb.out KW.out KD.out hg ks ho hb1 hg1; obtain ⟨A1, n1, cc1, rfl⟩ : ∃ A n c, v1 = .slice A n c := (Kd.R_slice ho).elim fun A h => h.elim fun c h => ⟨A, _, c, h⟩; clear hat ho hb1 hg1))
          rw [exj_exit]
          go_wp2
          go_roundg k
          case measure => omega
          case rel => exact ⟨i + 1 + 1, ws, wd ++ [d], true, by simp, HQ, ⟨by omega⟩, ⟨by have := HW.out; omega⟩, ⟨by have := HD.out; simp; omega⟩, HN⟩
        · exact absurd HH.out (by simp [hi1])
      · have HQ : Aside0 (spGo l0 k (i + 1) ws (wd ++ [c]) true = some r) := ⟨by have := HH.out; simpa [h32, h9, h10, h39, h34, h92] using this⟩
        clear HH
        have b32 : (c == 32) = false := by simp [h32]
        have b9 : (c == 9) = false := by simp [h9]
        have b10 : (c == 10) = false := by simp [h10]
        have b39 : (c == 39) = false := by simp [h39]
        have b34 : (c == 34) = false := by simp [h34]
        have b92 : (c == 92) = false := by simp [h92]
        go_wp2
        refine wp_scope_fwd 1 rfl ?_
        go_wp2_with (first | ((with_reducible refine gate_builtin (b := .append) (xs := #[.tmp 56, .tmp 58]) rfl ?_); at_builtin; refine Kd.R_append (Kd.int .u8) (w0 := w) w.heap.size rfl (.tmp 56) (.tmp 58) 68 5 (.int .u8 0) 1 rfl Tryd.underlying68 sp_info5 rfl (by decide) (by omega) Dv wd c [.int .u8 c] (fun _ => True) (fun _ => False) rfl ?hx ?hp (fun _ hk => hk.elim) (fun _ _ => trivial) ?hO ?hB ?hbase ?hl ?_; (case hx => show Value.slice (some ⟨_, 0, none⟩) 1 1 = _; simp); (case hp => rfl); (case hO => exact KD.out); (case hB => exact KB.out); (case hbase => exact ks); (case hl => have := HD.out; have := HI.out; have := HL.out; omega); intro v1 w1 ho hb1 hg1 hat; obtain ⟨c0', f0', HN⟩ := sp_after1 Kb.out KW.out KD.out hg ks ho hb1 hg1; obtain ⟨A1, n1, cc1, rfl⟩ : ∃ A n c, v1 = .slice A n c := (Kd.R_slice ho).elim fun A h => h.elim fun c h => ⟨A, _, c, h⟩; clear hat ho hb1 hg1))
        rw [exj_exit]
        go_wp2
        go_roundg k
        case measure => omega
        case rel => exact ⟨i + 1, ws, wd ++ [c], true, by simp, HQ, ⟨by omega⟩, ⟨by have := HW.out; omega⟩, ⟨by have := HD.out; simp; omega⟩, HN⟩
    · rw [if_neg hi] at hH
      have ci : decide ((i : Int) < (l0.length : Int)) = false := decide_eq_false (by omega)
      obtain rfl : endW op ws wd = r := by simpa using hH
      clear hH
      go_wp2_with (first | (go_at_call 40; refine (splitter_end.calls w.heap.size w.heap.size w wr ws wd op HS.out hsz).mono ?_; rintro e w2 ⟨rfl, HS2⟩; obtain ⟨Wv, Dv, hb, hW, hD, hB, hg, hs⟩ := HS2; have c0' := sp_cell hb 0 _ rfl; have HX := Aside0.mk (And.intro hW hB); clear hb hW hD hB))
      first | rw [Exit.noGoto_ret] | skip
      exact bodyPost_ret (v := .tuple #[Wv, .int .i64 0]) (by simp [results, Tryd.results30, go_sem]) rfl ⟨_, rfl, HX.out.1, HX.out.2⟩
end Go.Proofs.YthnfaipbkocljaaDoor.P
