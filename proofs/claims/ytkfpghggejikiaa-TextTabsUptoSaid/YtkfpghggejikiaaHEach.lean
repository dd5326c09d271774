/-
  text.each at the function text.same and at Whole's literal; text.Head; text.Whole: each answers what its plain form says, in new memory.
-/
import Derived.Test.YtkfpghggejikiaaPx1
import Derived.Test.YtkfpghggejikiaaPx2
import Derived.Test.YtkfpghggejikiaaPx3
import Derived.Test.YtkfpghggejikiaaPx4
namespace Go.Proofs.Ytkfpghggejikiaa.P
open Go.RowKit Go.Proofs.YtkfpghggejikiaaW.PrintWords Go.Proofs.YtkfpghggejikiaaW.PrintLast Go.Proofs.YtkfpghggejikiaaW.PrintMore
set_option linter.unusedVariables false
set_option linter.unusedSimpArgs false

/-- what 'each' makes: of each thing what g makes, one behind the other -/
def eachG (g : List Int → Option (List Int)) : List Int → List (List Int) → Option (List Int)
  | acc, [] => some acc
  | acc, x :: xs => (g x).bind fun y => if acc.length + y.length < 140737488355328 then eachG g (acc ++ y) xs else none

theorem drop_get {α : Type} (l : List α) (z : α) (k : Nat) (h : k < l.length) : l.drop k = l.getD k z :: l.drop (k + 1) := by
  rw [List.drop_eq_getElem_cons h, List.getD_eq_getElem?_getD, List.getElem?_eq_getElem h]
  rfl

theorem at_rows {w : World} {A : Option Addr} {n : Nat} {xs : List (List Int)} (h : Kd.C (Kd.slice 5 (Kd.int .u8)) w A n xs) (i : Nat) (h1 : i < n) :
    ∃ ad A1 c1, A = some ad ∧ w.cell? (ad.add i) = some (.slice A1 (xs.getD i []).length c1) ∧ (xs.getD i []).length ≤ c1 ∧ Kd.C (Kd.int .u8) w A1 (xs.getD i []).length (xs.getD i []) := by
  obtain ⟨ad, c, e, hl, hK, hc⟩ := Kd.C_get h [] (i : Int) (by omega) (by omega)
  obtain ⟨A1, c1, rfl, hle, hC⟩ := hK
  refine ⟨ad, A1, c1, e, ?_, by simpa using hle, by simpa using hC⟩
  have := hc 0 _ rfl
  simpa [Kd.slice] using this

theorem text_same.val (v : Value) (w : World) : Calls Try.prog 46 #[v] w fun e w' => e = .returned v ∧ w = w' := by
  go_enter Try.func46, Try.ntmps46
  go_wp2
  go_ret
  exact ⟨rfl, rfl⟩

set_option maxHeartbeats 4000000 in
set_option maxRecDepth 100000 in
theorem text_each_same.calls (A0 : Option Addr) (c0 : Nat) (l0 : List (List Int)) (r : List Int) (w : World) (hr0 : Kd.C (Kd.slice 5 (Kd.int .u8)) w A0 l0.length l0) (hc0 : l0.length ≤ c0) (h : eachG text_same.f [] l0 = some r) :
    Calls Try.prog 24 #[.slice A0 l0.length c0, .func (.func 46) #[] #[]] w fun e w' => ∃ v0_ : Value, e = .returned (v0_) ∧ Kd.R (Kd.int .u8) 5 w' w.heap.size (fun _ => True) v0_ r ∧ Below w.heap.size w w' := by
  have HR0 := Aside0.mk hr0
  have H := Aside0.mk h
  have hmax := Kd.C_max hr0
  clear hr0 hc0 h
  go_enter Try.func24, Try.ntmps24
  go_wp2
  go_loopw [5, 7, 10] (fun v5 v7 v10 w' => ∃ (k : Nat) (x5 : List Int), k ≤ l0.length ∧ v10 = .int .i64 k ∧ Aside0 (eachG text_same.f x5 (l0.drop k) = some r) ∧ Aside0 (Kd.R (Kd.int .u8) 5 w' w.heap.size (fun _ => True) v5 x5) ∧ Aside0 (Below w.heap.size w w')) (fun _ _ v10 _ => l0.length - (intOf v10).toNat)
  case atStart => exact ⟨0, [], Nat.zero_le _, rfl, ⟨H.out⟩, ⟨Kd.R_nil _ _ _ _ _⟩, ⟨Below.refl _ _⟩⟩
  case round =>
    obtain ⟨k, x5, hk, rfl, HE, HO, HB⟩ := hrel
    by_cases hlt : k < l0.length
    · obtain ⟨ad, A1, c1, e1, hcell, hle, hC⟩ := at_rows HR0.out k hlt
      subst e1
      have hE := HE.out
      rw [drop_get l0 [] k hlt] at hE
      simp only [eachG] at hE
      obtain ⟨y, hy, hE⟩ := Option.bind_eq_some_iff.mp hE
      by_cases hroom : x5.length + y.length < 140737488355328
      · rw [if_pos hroom] at hE
        replace hcell := (HB.out.cell (World.block_lt_of_cell? w _ hcell)).trans hcell
        have HY := Aside0.mk hy
        have HE2 := Aside0.mk hE
        have HRM := Aside0.mk hroom
        have HC1 := Aside0.mk (Kd.C_below hC HB.out)
        have HLE := Aside0.mk hle
        clear hy hE hroom hC hle HE
        obtain ⟨x, hx⟩ : ∃ x, x = l0.getD k [] := ⟨_, rfl⟩
        rw [← hx] at hcell HC1 HLE HY
        clear hx
        go_wp2_with fail
        refine (text_same.val _ _).mono ?_
        rintro e w' ⟨rfl, rfl⟩
        obtain rfl : y = x := (Option.some.inj HY.out).symm
        have HCY := HC1
        have HBY := HB
        have HOY := HO
        go_wp2_with (first | ((with_reducible refine gate_builtin (b := .append) rfl ?_); at_builtin; refine Kd.R_append_rows (Kd.int .u8) (w0 := w) w.heap.size rfl _ _ 22 5 (.int .u8 0) 1 rfl Try.underlying22 info5 rfl (by decide) (by omega) u5 x5 y _ _ _ (fun _ => True) (fun _ => False) rfl rfl ?aO ?aR (fun _ _ h => h) (fun _ h => h.elim) ?aF ?aB ?aS ?aL ?_; (case aR => exact HCY.out); (case aB => exact HBY.out); (case aF => exact (fun _ _ => trivial)); (case aO => exact HOY.out); (case aS => exact HBY.out.size); (case aL => have := HRM.out; omega); intro v1 w1 ho hb hg hat; have HO1 := Aside0.mk ho; have HB1 := Aside0.mk hb; clear ho hb hg hat))
        go_roundw
        case rel => exact ⟨k + 1, x5 ++ y, by omega, by go_num, HE2, HO1, HB1⟩
        case measure => simp [intOf]; omega
      · rw [if_neg hroom] at hE
        exact absurd hE (by simp)
    · obtain rfl : k = l0.length := by omega
      have hE := HE.out
      rw [List.drop_length] at hE
      obtain rfl := Option.some.inj hE
      clear hE HE
      go_wp2
      go_ret
      exact ⟨_, rfl, HO.out, HB.out⟩

set_option maxHeartbeats 4000000 in
set_option maxRecDepth 100000 in
theorem text_each_whole.calls (A0 : Option Addr) (c0 : Nat) (l0 : List (List Int)) (r : List Int) (w : World) (hr0 : Kd.C (Kd.slice 5 (Kd.int .u8)) w A0 l0.length l0) (hc0 : l0.length ≤ c0) (h : eachG text_Whole_1.f [] l0 = some r) :
    Calls Try.prog 24 #[.slice A0 l0.length c0, .func (.func 25) #[] #[]] w fun e w' => ∃ v0_ : Value, e = .returned (v0_) ∧ Kd.R (Kd.int .u8) 5 w' w.heap.size (fun _ => True) v0_ r ∧ Below w.heap.size w w' := by
  have HR0 := Aside0.mk hr0
  have H := Aside0.mk h
  have hmax := Kd.C_max hr0
  clear hr0 hc0 h
  go_enter Try.func24, Try.ntmps24
  go_wp2
  go_loopw [5, 7, 10] (fun v5 v7 v10 w' => ∃ (k : Nat) (x5 : List Int), k ≤ l0.length ∧ v10 = .int .i64 k ∧ Aside0 (eachG text_Whole_1.f x5 (l0.drop k) = some r) ∧ Aside0 (Kd.R (Kd.int .u8) 5 w' w.heap.size (fun _ => True) v5 x5) ∧ Aside0 (Below w.heap.size w w')) (fun _ _ v10 _ => l0.length - (intOf v10).toNat)
  case atStart => exact ⟨0, [], Nat.zero_le _, rfl, ⟨H.out⟩, ⟨Kd.R_nil _ _ _ _ _⟩, ⟨Below.refl _ _⟩⟩
  case round =>
    obtain ⟨k, x5, hk, rfl, HE, HO, HB⟩ := hrel
    by_cases hlt : k < l0.length
    · obtain ⟨ad, A1, c1, e1, hcell, hle, hC⟩ := at_rows HR0.out k hlt
      subst e1
      have hE := HE.out
      rw [drop_get l0 [] k hlt] at hE
      simp only [eachG] at hE
      obtain ⟨y, hy, hE⟩ := Option.bind_eq_some_iff.mp hE
      by_cases hroom : x5.length + y.length < 140737488355328
      · rw [if_pos hroom] at hE
        replace hcell := (HB.out.cell (World.block_lt_of_cell? w _ hcell)).trans hcell
        have HY := Aside0.mk hy
        have HE2 := Aside0.mk hE
        have HRM := Aside0.mk hroom
        have HC1 := Aside0.mk (Kd.C_below hC HB.out)
        have HLE := Aside0.mk hle
        clear hy hE hroom hC hle HE
        obtain ⟨x, hx⟩ : ∃ x, x = l0.getD k [] := ⟨_, rfl⟩
        rw [← hx] at hcell HC1 HLE HY
        clear hx
        go_wp2_with fail
        refine (text_Whole_1.calls _ _ x y _ HC1.out HLE.out HY.out).mono ?_
        rintro e w2 ⟨v0, rfl, ho2, hb2⟩
        obtain ⟨Ay, cy, rfl, _, hCy⟩ := Kd.R_reads ho2
        have HCY := Aside0.mk hCy
        have HBY := Aside0.mk (below_then HB.out HB.out.size hb2)
        have HOY := Aside0.mk (Kd.R_below HO.out hb2)
        clear ho2 hb2 hCy
        go_wp2_with (first | ((with_reducible refine gate_builtin (b := .append) rfl ?_); at_builtin; refine Kd.R_append_rows (Kd.int .u8) (w0 := w) w.heap.size rfl _ _ 22 5 (.int .u8 0) 1 rfl Try.underlying22 info5 rfl (by decide) (by omega) u5 x5 y _ _ _ (fun _ => True) (fun _ => False) rfl rfl ?aO ?aR (fun _ _ h => h) (fun _ h => h.elim) ?aF ?aB ?aS ?aL ?_; (case aR => exact HCY.out); (case aB => exact HBY.out); (case aF => exact (fun _ _ => trivial)); (case aO => exact HOY.out); (case aS => exact HBY.out.size); (case aL => have := HRM.out; omega); intro v1 w1 ho hb hg hat; have HO1 := Aside0.mk ho; have HB1 := Aside0.mk hb; clear ho hb hg hat))
        go_roundw
        case rel => exact ⟨k + 1, x5 ++ y, by omega, by go_num, HE2, HO1, HB1⟩
        case measure => simp [intOf]; omega
      · rw [if_neg hroom] at hE
        exact absurd hE (by simp)
    · obtain rfl : k = l0.length := by omega
      have hE := HE.out
      rw [List.drop_length] at hE
      obtain rfl := Option.some.inj hE
      clear hE HE
      go_wp2
      go_ret
      exact ⟨_, rfl, HO.out, HB.out⟩

/-- the first lines, each with its line feed -/
def text_Head.f (k : Nat) (l0 : List Int) (a1 : Int) : Option (List Int) :=
  (text_split.f k l0).bind fun t => (text_first.f (t.length : Int) a1).bind fun n => if 0 ≤ n then (if n ≤ (t.length : Int) then eachG text_same.f [] (t.take n.toNat) else none) else none
theorem text_Head.mono : ∀ a0 a1 k, LeO (text_Head.f k a0 a1) (text_Head.f (k + 1) a0 a1) := by
  intro a0 a1 k
  unfold text_Head.f
  exact LeO.bind (text_split.mono _ _) (fun _ => LeO.refl _)

set_option maxHeartbeats 4000000 in
set_option maxRecDepth 100000 in
theorem text_Head.calls (k : Nat) (A0 : Option Addr) (c0 : Nat) (l0 : List Int) (a1 : Int) (r : List Int) (w : World) (hr0 : Kd.C (Kd.int .u8) w A0 l0.length l0) (hc0 : l0.length ≤ c0) (h : text_Head.f k l0 a1 = some r) :
    Calls Try.prog 28 #[.slice A0 l0.length c0, .int .i64 a1] w fun e w' => ∃ v0_ : Value, e = .returned (v0_) ∧ Kd.R (Kd.int .u8) 5 w' w.heap.size (fun _ => True) v0_ r ∧ Below w.heap.size w w' := by
  unfold text_Head.f at h
  obtain ⟨t, ht, h⟩ := Option.bind_eq_some_iff.mp h
  obtain ⟨n, hn, h⟩ := Option.bind_eq_some_iff.mp h
  by_cases h0 : 0 ≤ n
  · rw [if_pos h0] at h
    by_cases h1 : n ≤ (t.length : Int)
    · rw [if_pos h1] at h
      have HR0 := Aside0.mk hr0
      have HC0 := Aside0.mk hc0
      have HT := Aside0.mk ht
      have HN := Aside0.mk hn
      have HE := Aside0.mk h
      have Hh0 := Aside0.mk h0
      have Hh1 := Aside0.mk h1
      clear hr0 hc0 ht hn h h0 h1
      go_enter Try.func28, Try.ntmps28
      go_wp2_with fail
      refine (text_split.calls k (fun k_ => k_ < w.heap.size) _ _ l0 t w (Kd.V_mk HC0.out (Kd.C_F (Kd.heap_int .u8) HR0.out)) HT.out).mono ?_
      rintro e w1 ⟨v0, rfl, ho, hb⟩
      obtain ⟨At, ct, rfl, hlt, hCt⟩ := Kd.N_reads ho
      have HB1 := Aside0.mk hb
      have HCt := Aside0.mk hCt
      have HLt := Aside0.mk hlt
      clear ho hb hCt hlt
      go_wp2_with fail
      refine (text_first.calls _ _ n _ HN.out).mono ?_
      rintro e w2 ⟨rfl, hb2⟩
      have HB2 := Aside0.mk hb2
      clear hb2
      obtain ⟨i22, hi22, _, hsz22, _⟩ := info_parts (show (Try.prog.info? 22).map (fun i => (i.zero, i.size, i.bytes)) = some (some (.slice none 0 0), 1, 24) by kernel_rfl)
      have hcut := cut_to (P := Try.prog) 23 22 .i64 Try.underlying23 hi22 At t.length ct n Hh0.out Hh1.out HLt.out
      have hlen : (t.take n.toNat).length = n.toNat := by rw [List.length_take]; have := Hh1.out; have := Hh0.out; omega
      have HLn := Aside0.mk hlen
      rw [← hlen] at hcut
      clear hi22 hsz22 hlen
      go_wp2_with fail
      refine calls_of_args (args' := #[.slice At (t.take n.toNat).length ct, .func (.func 46) #[] #[]]) (by first | rfl | (simp only [List.length_take]; done) | (simp; done)) ?_
      (with_reducible refine (text_each_same.calls At ct (t.take n.toNat) r _ ?_ ?_ HE.out).mono ?_)
      · have hC2 := Kd.C_take HCt.out (m := n.toNat) (by have := Hh1.out; have := Hh0.out; omega)
        exact Kd.C_below hC2 HB2.out
      · rw [HLn.out]
        have := Hh1.out; have := HLt.out; have := Hh0.out
        omega
      rintro e w3 ⟨v3, rfl, ho3, hb3⟩
      have HO3 := Aside0.mk ho3
      have HB3 := Aside0.mk hb3
      clear ho3 hb3
      go_wp2
      go_ret
      exact ⟨_, rfl, Kd.R_lower HO3.out (Nat.le_trans HB1.out.size HB2.out.size), below_then HB1.out HB1.out.size (below_then HB2.out HB2.out.size HB3.out)⟩
    · rw [if_neg h1] at h
      exact absurd h (by simp)
  · rw [if_neg h0] at h
    exact absurd h (by simp)

end Go.Proofs.Ytkfpghggejikiaa.P
