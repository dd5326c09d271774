/- The law PathSplits holds of the given program: it answers true at every input of bulk at most 1048576; what came in reads as before. Conditions: the statement's own premise on the bulk. -/
import Derived.Test.YtajafgcndalieaaDoorCards
import Derived.Test.YtajafgcndalieaaDoorTie
import Derived.Test.YtajafgcndalieaaDoorPl6
import Derived.Test.YtajafgcndalieaaDoorRowAid
import Derived.WalkKit
import Derived.ProofKit
import Derived.OpenShut
import Derived.ShutString
import Derived.ChangeOld
import Derived.Below
import Derived.SizedLaws
import Derived.Lay
import Derived.Deep.DeepHandedRow
import Derived.JoinedCond
import Derived.Lib.SmallJoins
namespace Go.Proofs.YtajafgcndalieaaDoor.pathSplits
open Go.ChangeShapes Go.WideShapes Go.ChangeAt Go.RowKit Go.Joins
open Go.ChangeMaps (open_string shut_string)
open Go.Proofs.YtajafgcndalieaaDoorW.PrintWords
set_option linter.unusedVariables false
theorem own : ownKnob Tryd.prog.godebug = none := by kernel_rfl
theorem laidOut : laidOutB Tryd.prog = true := by kernel_rfl
theorem walk (a0 : ByteArray) (a1_0 : Bool) (A1 : Option Addr) (c1 : Nat) (l1 : List ByteArray) (a1_2 : Bool) (w : World) (w0 : a0.size ≤ 1048576) (hr1 : Kd.C Kd.string w A1 l1.length l1) (hc1 : l1.length ≤ c1) (b1 : (l1.map fun n => n.size + 1).sum ≤ 1048576) :
    Calls Tryd.prog 3 #[.string a0, .agg #[.bool a1_0, .slice A1 l1.length c1, .bool a1_2]] w fun e w' => e = .returned (.bool true) ∧ Below w.heap.size w w' := by
  obtain ⟨k, h⟩ := Pure.PathSplits a0 a1_0 l1 a1_2 w0 b1
  exact P.tinsellaw03_PathSplits.calls k a0 a1_0 A1 c1 l1 a1_2 true w hr1 hc1 h
theorem contract (H : Type) (enc : TypeId × Value → H) (W : World) (base : Nat) (args : Array Value) (ds gs : List (DataW H)) (before : List MemPlace)
    (hval0 : ∀ (j : Nat) t v, Tryd.f3.params[j]? = some t → args[j]? = some v → Value.okWide Tryd.prog W .any base t v)
    (hW : DataW.Whole enc Tryd.prog Tryd.f3.params.toList Rows.pathSplitsSpec.vars false W args.toList ds gs before)
    (hk : Rows.uptoSmall H (ds ++ gs) = true)
    : Calls Tryd.prog 3 args W fun e W' => ∃ v, e = .returned v ∧ Rows.pathSplitsSpec.post enc Tryd.prog Tryd.f3 false true false false W args v W' := by
  have hval : ∀ (j : Nat) t v, Tryd.f3.params[j]? = some t → args[j]? = some v → Value.okWide Tryd.prog W .any base t v := hval0
  have hW' := hW
  obtain ⟨p, q, hA0, hV, rfl, hfz, hnd⟩ := hW
  have hA : DataW.TrodAll enc Tryd.prog W 0 (fun _ => true) true Tryd.f3.params.toList args.toList ds p := hA0
  rw [Tryd.params3] at hA hval
  obtain ⟨v0, vs0, d0, ds0, p0, q0, hargs, rfl, rfl, h0, r0⟩ := trodAll_cons hA
  obtain ⟨v1, vs1, d1, ds1, p1, q1, rfl, rfl, rfl, h1, r1⟩ := trodAll_cons r0
  obtain ⟨rfl, rfl, rfl⟩ := trodAll_nil r1
  obtain rfl : args = #[v0, v1] := by cases args; simp_all
  obtain ⟨rfl, rfl⟩ := trodVars_none hV
  have k0 := h0
  have lt0 : ∀ x ∈ p0, x.block < W.heap.size := by obtain ⟨m, hm⟩ := k0; exact DataW.trod_lt m _ _ _ hm
  obtain ⟨a0, rfl, rfl, rfl, y0⟩ := open_string Tryd.underlying9 (hval 0 9 v0 rfl rfl) h0
  have w0 : a0.size ≤ 1048576 := RowAid.bulk_string hk (by simp)
  have k1 := h1
  have lt1 : ∀ x ∈ p1, x.block < W.heap.size := by obtain ⟨m, hm⟩ := k1; exact DataW.trod_lt m _ _ _ hm
  obtain ⟨u0, u1, u2, z0, z1, z2, m, rfl, hdd, _, g0, g1, g2⟩ := open_agg3 Tryd.underlying24 (by kernel_rfl) (by kernel_rfl) (hval 1 24 v1 rfl rfl) h1
  obtain ⟨a1_0, rfl⟩ : ∃ b, u0 = .bool b := by
    obtain ⟨b, e, _⟩ := DataW.trod_bool Tryd.underlying4 g0
    exact ⟨b, by simpa using e⟩
  obtain ⟨a1_2, rfl⟩ : ∃ b, u2 = .bool b := by
    obtain ⟨b, e, _⟩ := DataW.trod_bool Tryd.underlying4 g2
    exact ⟨b, by simpa using e⟩
  obtain ⟨A1, len1, c1, rfl⟩ : ∃ a l c, u1 = .slice a l c := by
    rcases open_strings Tryd.underlying22 Tryd.underlying9 (by kernel_rfl) g1 with ⟨e, _⟩ | ⟨a, l, c, _, e, _⟩
    · exact ⟨none, 0, 0, by simpa using e⟩
    · exact ⟨some a, l, c, by simpa using e⟩
  obtain ⟨l1, rfl, hc1, hr1, hd1⟩ := RowAid.opened_strs (d := z1.1) (ps := z1.2) Tryd.underlying22 Tryd.underlying9 (by kernel_rfl) ⟨m, g1⟩
  have b1 := RowAid.bulk_strs (ds := [z1.1]) (by
    have h1 := RowAid.bulk_in hk (d := d1) (by simp)
    rw [hdd] at h1
    simp only [Rows.uptoBulk, Rows.uptoBulkAll] at h1
    exact decide_eq_true (by simp only [Rows.uptoBulkAll]; omega)) (by simp) hd1
  clear hA0 hval0
  refine (walk a0 a1_0 A1 c1 l1 a1_2 W w0 hr1 hc1 b1).mono fun e W' ⟨he, bel⟩ => ?_
  subst he
  exact ⟨_, rfl, _, _, _, [], _, [], hW', trodAll_mk1 (shut_bool Tryd.underlying4 _), (trodAll_cons_mk (shut_string Tryd.underlying9 y0) (trodAll_cons_mk (Below.trod laidOut (by kernel_rfl) (of_decide_eq_true (by kernel_rfl)) k1 bel lt1) trodAll_mk0)), rfl, bel.frame _, fun h => by cases h⟩
/-- A world for the witness: the listed variables are laid in it. -/
noncomputable def laidWorld (os : Os) : World := World.laidAll Tryd.prog os Rows.pathSplitsUptoRow.laid
theorem laid_met (os : Os) : laidMetH Tryd.prog Rows.pathSplitsUptoRow.laid ((laidWorld os).forCall (fun _ _ => 0) ⟨#[], #[.string ByteArray.empty, .agg #[.bool false, .slice none 0 0, .bool false]], []⟩).memory := by
  rw [MakeChecks.laidMetH_plain _ _ _ (by kernel_rfl)]
  exact laidMet_laidAll _ (by kernel_rfl) (by kernel_rfl)
theorem reads (os : Os) {H : Type} (enc : TypeId × Value → H) : ∃ places, DataW.whole enc Tryd.prog ((laidWorld os).forCall (fun _ _ => 0) ⟨#[], #[.string ByteArray.empty, .agg #[.bool false, .slice none 0 0, .bool false]], []⟩).memory Tryd.f3.params.toList Rows.pathSplitsSpec.vars false (#[.string ByteArray.empty, .agg #[.bool false, .slice none 0 0, .bool false]] : Array Value).toList 8 = some ([.lit (.string []), .agg [.lit (.bool false), .nil, .lit (.bool false)]], [], places) :=
  ⟨[], by kernel_rfl⟩
set_option maxRecDepth 100000 in
theorem lifted (os : Os) (started : os.Started) (H : Type) (enc : TypeId × Value → H) (F : Stop.Interp) :
    ReturnsInHanded {} Tryd.checked os 3 .any ((Rows.OpenSpec.upto Rows.pathSplitsSpec).preRow enc Tryd.prog Tryd.f3 Rows.pathSplitsUptoRow.domain false Rows.pathSplitsUptoRow.laid) (((Rows.OpenSpec.upto Rows.pathSplitsSpec).at F).post enc Tryd.prog Tryd.f3 false true false false) := by
  obtain ⟨places, hx⟩ := reads os enc
  refine returnsInHanded_of_row (C := Tryd.checked) (s := (Rows.OpenSpec.upto Rows.pathSplitsSpec)) own started (by kernel_rfl) Tryd.func3
    (witness_row_at (enc := enc) (C := Tryd.checked) false (laidWorld os) #[.string ByteArray.empty, .agg #[.bool false, .slice none 0 0, .bool false]] (World.laidAll_os _ _ _) (by kernel_rfl) (by kernel_rfl) (by kernel_rfl)
      (OpenSpec.preRow_of_cond 8 hx (by kernel_rfl) (fun k hk => by cases hk; kernel_rfl) (by kernel_rfl) (laid_met os))) ?_
  intro W base args ds gs before hval hW _ hcond hsz hL _ _
  exact contract H enc W base args ds gs before hval hW (hcond _ rfl)
theorem said : Rows.PathSplitsUptoSaid :=
  OpenClaim.holds_of_cond 3 Tryd.f3 rfl rfl rfl rfl rfl rfl rfl ⟨rfl, rfl, rfl, rfl, rfl⟩ rfl rfl rfl rfl rfl (by kernel_rfl) Tryd.func3 (by kernel_rfl)
    (of_decide_eq_true (by kernel_rfl)) (by unfold Func.isWrapper; first | (rw [if_pos (by decide +kernel)]; kernel_rfl) | (rw [if_neg (by decide +kernel)]; exact ⟨rfl, rfl⟩))
    (fun os started H enc _ F => by rw [OpenClaim.pre_eq_preRow]; exact lifted os started H enc F)
theorem plain (f : FuncId) (fn : Func) (hf : Tryd.pinned.checked.prog.funcNamed "tinsel/tinsellaw03.PathSplits" = some f) (hfn : Tryd.pinned.checked.prog.funcs[f]? = some fn) :
    false = Tryd.pinned.checked.prog.looks [] ∧ ∀ (j : Nat) t, fn.params[j]? = some t → Tryd.pinned.checked.prog.wantsStandIn t = false := by
  obtain rfl : f = 3 := Option.some.inj ((show Tryd.prog.funcNamed "tinsel/tinsellaw03.PathSplits" = some 3 by kernel_rfl).symm.trans hf) |>.symm
  obtain rfl : fn = Tryd.f3 := (Option.some.inj (Tryd.func3.symm.trans hfn)).symm
  refine ⟨by kernel_rfl, fun j t ht => ?_⟩
  rw [Tryd.params3] at ht
  have hm : t ∈ [9, 24] := by simpa using Array.mem_of_getElem? ht
  have hall : ([9, 24].all fun u => !Tryd.prog.wantsStandIn u) = true := by kernel_rfl
  exact (show Tryd.prog.wantsStandIn t = false by simpa using List.all_eq_true.1 hall t hm)
theorem card : Rows.PathSplitsUptoCardSaid :=
  Claim7.holds_tied_plain_at .later [] _ _ _ _ said (fun _ h => by cases h) (by kernel_rfl) (fun _ h => by cases h) pathSplitsUpto_row_tie rfl ⟨rfl, rfl⟩ (by kernel_rfl) rfl plain (by kernel_rfl)
#print axioms card
end Go.Proofs.YtajafgcndalieaaDoor.pathSplits
namespace Go.Proofs.YtajafgcndalieaaDoor
/-- The card, under a short name, for the claim. -/
theorem pathSplitsUpto_holds : Rows.PathSplitsUptoCardSaid := pathSplits.card
end Go.Proofs.YtajafgcndalieaaDoor
