/- The law ArgsNone: walked by hand. -/
import Derived.Test.YthnfaipbkocljaaDoorHNone
import Derived.Test.YthnfaipbkocljaaDoorHAwake
import Derived.Deep.LoopGhost
namespace Go.Proofs.YthnfaipbkocljaaDoor.P
open Go.RowKit Go.Proofs.YthnfaipbkocljaaDoorW.PrintWords Go.Proofs.YthnfaipbkocljaaDoorW.PrintLast Go.Proofs.YthnfaipbkocljaaDoorW.PrintMore
set_option linter.unusedVariables false
set_option linter.unusedSimpArgs false
theorem none_new (w : World) (o : Obj) : (w.alloc o).heap[w.heap.size]? = some o := by
  show (w.heap.push o)[w.heap.size]? = some o
  rw [Array.getElem?_push, if_pos rfl]
theorem none_old {w : World} {o x : Obj} {g : Nat} (h : w.heap[g]? = some x) : (w.alloc o).heap[g]? = some x :=
  ((World.grownBy_alloc w o none).block g (Array.getElem?_eq_some_iff.1 h).1 (by simp)).trans h
theorem NoEnv.drewN {w : World} {p : Value} (h : NoEnv w p) (n : Nat) : NoEnv (w.drewN n) p := h
set_option maxHeartbeats 4000000 in
set_option maxRecDepth 100000 in
theorem law_ArgsNone.calls (a0 a1 : ByteArray) (w : World) : Calls Tryd.prog 7 #[.string a0, .string a1] w fun e w' => e = .returned (.bool true) ∧ Below w.heap.size w w' := by
  have HB := Aside0.mk (Below.refl w.heap.size w)
  go_enter Tryd.func7, Tryd.ntmps7
  go_wp2
  go_loopg [13] 2 (fun kq v13 w' => ∃ i : Nat, v13 = .int .i64 (i : Int) ∧ Aside0 (i + kq = 2) ∧ Aside0 (w'.heap[w.heap.size]? = some (.cells #[.slice none 0 0, .map none] 58 (0, 0))) ∧ Aside0 (w'.heap[w.heap.size + 1]? = some (.cells #[.pointer none, .pointer (some ⟨w.heap.size, 0, none⟩)] 42 (0, 0))) ∧ Aside0 (Below w.heap.size w w'))
  case atStart =>
    refine ⟨0, rfl, ⟨rfl⟩, ⟨none_old (none_new w _)⟩, ⟨?_⟩, ⟨by repeat (first | (with_reducible first | exact HB.out | apply below_alloc | apply pw_below_drewN | apply below_drew1) | exact HB.out)⟩⟩
    have := none_new (w.alloc (.cells #[.slice none 0 0, .map none] 58)) (.cells #[.pointer none, .pointer (some ⟨w.heap.size, 0, none⟩)] 42)
    rwa [World.size_alloc] at this
  case round =>
    clear HB
    obtain ⟨i, rfl, HI, HE, HS, HB⟩ := hrel
    have c0 := ne_cell HS.out 0 _ rfl
    have c1 := ne_cell HS.out 1 _ rfl
    cases gk with
    | zero =>
      obtain rfl : i = 2 := by have := HI.out; omega
      go_wp2_with fail
      refine (tinsellaw22_awake.calls 60 true _ (tinsellaw22_awake.true_ 60 (Nat.le_refl _))).mono ?_
      rintro e w2 ⟨rfl, hb2⟩
      have HB2 := Aside0.mk (below_step HB.out hb2)
      clear hb2
      go_wp2
      go_ret
      exact ⟨rfl, HB2.out⟩
    | succ g =>
    have HP : ∃ p, wr.cell? ⟨w.heap.size + 1, i, none⟩ = some p ∧ NoEnv wr p := by
      rcases (show i = 0 ∨ i = 1 by have := HI.out; omega) with rfl | rfl
      · exact ⟨_, c0, .inl rfl⟩
      · exact ⟨_, c1, .inr ⟨_, rfl, HE.out⟩⟩
    obtain ⟨p, hx, hp⟩ := HP
    have HP := Aside0.mk hp
    clear c0 c1 hp
    have q1 := eq_true (show (0 : Int) ≤ (i : Int) by omega)
    have q2 := eq_true (show (i : Int) < 2 by have := HI.out; omega)
    have ci : decide ((i : Int) < 2) = true := decide_eq_true (by have := HI.out; omega)
    have hwi : (IntKind.i64.wrap ((i : Int) + 1)) = (i : Int) + 1 := (i64_w _).trans (by have := HI.out; unfold wrap64; omega)
    go_wp2_with (first | (go_at_call 26; refine (env_Unset.none p a0 _ HP.out).mono ?_; rintro e w2 ⟨rfl, rfl⟩) | (go_at_call 27; refine (env_Get.none p a0 _ HP.out).mono ?_; rintro e w2 ⟨rfl, rfl⟩) | (go_at_call 28; refine (env_Set.none p a0 a1 _ HP.out).mono ?_; rintro e w2 ⟨rfl, rfl⟩) | (go_at_call 11; refine (tinsellaw22_num.calls 14 14 _ rfl).mono ?_; rintro e w' ⟨rfl, ⟨nd, rfl⟩⟩) | (go_at_call 21; refine (env_List.none p _ (HP.out.drewN _)).mono ?_; rintro e w2 ⟨rfl, rfl⟩) | (go_at_call 24; refine (env_Copy.none p _ (HP.out.drewN _)).mono ?_; rintro e w2 ⟨rfl, rfl⟩))
    trace_state
    go_roundg g
    case measure => omega
    case rel => exact ⟨i + 1, by simp, ⟨by have := HI.out; omega⟩, HE, HS, ⟨pw_below_drewN HB.out _⟩⟩
end Go.Proofs.YthnfaipbkocljaaDoor.P
