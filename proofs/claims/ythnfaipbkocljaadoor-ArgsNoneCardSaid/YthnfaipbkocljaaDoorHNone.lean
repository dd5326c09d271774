/- An environment that no call made (nil, or its zero value): what its methods answer. -/
import Derived.Test.YthnfaipbkocljaaDoorWLast
import Derived.Test.YthnfaipbkocljaaDoorWMore
import Derived.Test.YthnfaipbkocljaaDoorProg
namespace Go.Proofs.YthnfaipbkocljaaDoor.P
open Go.RowKit Go.Proofs.YthnfaipbkocljaaDoorW.PrintWords Go.Proofs.YthnfaipbkocljaaDoorW.PrintLast Go.Proofs.YthnfaipbkocljaaDoorW.PrintMore
set_option linter.unusedVariables false
set_option linter.unusedSimpArgs false

/-- nil, or a pointer to an environment's zero value -/
def NoEnv (W : World) (p : Value) : Prop := p = .pointer none ∨ ∃ g, p = .pointer (some ⟨g, 0, none⟩) ∧ W.heap[g]? = some (.cells #[.slice none 0 0, .map none] 58 (0, 0))
theorem ne_cell {W : World} {B t : Nat} {cs : Array Value} (h : W.heap[B]? = some (.cells cs t (0, 0))) (i : Nat) (v : Value) (hv : cs[i]? = some v) : W.cell? ⟨B, i, none⟩ = some v := by simp [World.cell?, h, hv]
set_option maxRecDepth 100000
theorem map_ne_nil (w : World) : (binOp BinOp.neq 56 (Value.map none) (Value.map none)).run Tryd.prog w = .ok (.bool false) w := by
  first
    | kernel_rfl
    | rfl
    | (simp [binOp, Tryd.underlying56, go_sem]; done)
set_option maxHeartbeats 4000000
theorem env_is.none (p : Value) (w : World) (h : NoEnv w p) : Calls Tryd.prog 34 #[p] w fun e w' => e = .returned (.bool false) ∧ w' = w := by
  rcases h with rfl | ⟨g, rfl, hb⟩
  · go_enter Tryd.func34, Tryd.ntmps34
    go_wp2
    go_ret
    exact ⟨rfl, rfl⟩
  · have c1 := ne_cell hb 1 _ rfl
    have hm := map_ne_nil w
    go_enter Tryd.func34, Tryd.ntmps34
    go_wp2
    go_ret
    exact ⟨rfl, rfl⟩
theorem env_Get.none (p : Value) (s : ByteArray) (w : World) (h : NoEnv w p) : Calls Tryd.prog 27 #[p, .string s] w fun e w' => e = .returned (.tuple #[.string ⟨#[]⟩, .bool false]) ∧ w' = w := by
  go_enter Tryd.func27, Tryd.ntmps27
  go_wp2_with (first | (go_at_call 34; refine (env_is.none p w h).mono ?_; rintro e w2 ⟨rfl, rfl⟩))
  go_ret2
  exact ⟨rfl, rfl⟩
theorem env_Set.none (p : Value) (s v : ByteArray) (w : World) (h : NoEnv w p) : Calls Tryd.prog 28 #[p, .string s, .string v] w fun e w' => e = .returned (.int .i64 14) ∧ w' = w := by
  go_enter Tryd.func28, Tryd.ntmps28
  go_wp2_with (first | (go_at_call 34; refine (env_is.none p w h).mono ?_; rintro e w2 ⟨rfl, rfl⟩))
  go_ret
  exact ⟨rfl, rfl⟩
theorem env_List.none (p : Value) (w : World) (h : NoEnv w p) : Calls Tryd.prog 21 #[p] w fun e w' => e = .returned (.slice none 0 0) ∧ w' = w := by
  go_enter Tryd.func21, Tryd.ntmps21
  go_wp2_with (first | (go_at_call 34; refine (env_is.none p w h).mono ?_; rintro e w2 ⟨rfl, rfl⟩))
  go_ret
  exact ⟨rfl, rfl⟩
theorem env_Copy.none (p : Value) (w : World) (h : NoEnv w p) : Calls Tryd.prog 24 #[p] w fun e w' => e = .returned (.pointer none) ∧ w' = w := by
  go_enter Tryd.func24, Tryd.ntmps24
  go_wp2_with (first | (go_at_call 34; refine (env_is.none p w h).mono ?_; rintro e w2 ⟨rfl, rfl⟩))
  go_ret
  exact ⟨rfl, rfl⟩
theorem env_Unset.none (p : Value) (s : ByteArray) (w : World) (h : NoEnv w p) : Calls Tryd.prog 26 #[p, .string s] w fun e w' => e = .returned (.tuple #[]) ∧ w' = w := by
  go_enter Tryd.func26, Tryd.ntmps26
  go_wp2_with (first | (go_at_call 27; refine (env_Get.none p s w h).mono ?_; rintro e w2 ⟨rfl, rfl⟩))
  exact bodyPost_ret (v := .tuple #[]) (by simp [results, go_sem]) rfl ⟨rfl, rfl⟩
end Go.Proofs.YthnfaipbkocljaaDoor.P
