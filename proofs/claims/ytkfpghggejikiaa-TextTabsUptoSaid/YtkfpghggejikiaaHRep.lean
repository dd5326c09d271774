/-
  bytes.Repeat of one byte: so many of it, in new memory; text.padded of the empty text; text.spaces.
-/
import Derived.Test.YtkfpghggejikiaaPx0
import Derived.Lib.MakeNoZero
import Derived.Lib.SlBuf
import Derived.Laws.CopyOwn
import Derived.Laws.MathBits
import Derived.Deep.RegionLaw
namespace Go.Proofs.Ytkfpghggejikiaa.P
open Go.RowKit Go.Proofs.YtkfpghggejikiaaW.PrintWords Go.Proofs.YtkfpghggejikiaaW.PrintLast Go.Proofs.YtkfpghggejikiaaW.PrintMore
attribute [local go_sem] max2_int min2_int max_two min_two
set_option linter.unusedVariables false
set_option linter.unusedSimpArgs false

set_option maxHeartbeats 4000000 in
set_option maxRecDepth 100000 in
theorem bits_Mul_one (n : Nat) (w : World) (hn : n ≤ 140737488355328) :
    Calls Try.prog 62 #[.int .u64 1, .int .u64 n] w fun e w' => e = .returned (.tuple #[.int .u64 0, .int .u64 n]) ∧ w = w' := by
  have h1 : bits .and .u64 1 4294967295 = 1 := by rw [and_low32 1 (by omega) (by omega)]; rfl
  have h2 : bits .and .u64 (n : Int) 4294967295 = (n : Int) % 4294967296 := and_low32 _ (by omega) (by omega)
  have h3 : bits .and .u64 0 4294967295 = 0 := by rw [and_low32 0 (by omega) (by omega)]; rfl
  have h4 : (n : Int) % 4294967296 / 4294967296 = 0 := by omega
  have h5 : (n : Int) / 4294967296 / 4294967296 = 0 := by omega
  have h6 : IntKind.u64.wrap ((n : Int) / 4294967296) = (n : Int) / 4294967296 := by rw [IntKind.wrap_u64]; omega
  have h7 : IntKind.u64.wrap 0 = 0 := by rw [IntKind.wrap_u64]; rfl
  go_enter Try.func62, Try.ntmps62
  go_wp2
  go_ret2
  exact ⟨rfl, rfl⟩

/-- 'copy' as one step of a region that draws, where its run is known by an equation. -/
theorem step_copy_run {P : Program} {ops : Array Oper} {o : Oper} {a : Act} {w : World} {K : Act → World → Prop} {Q : Exit → Act → World → Prop} {E : Prop} (hgd : o.guard = none) (d s : Operand) (t t' : TypeId)
    (ho : o.op = .call { callee := .builtin .copy, args := #[d, s], argTypes := #[t, t'] }) (v u : Value) (hd : a.eval d = v) (hs : a.eval s = u) {v' : Value} {w' : World}
    (hr : (Builtin.copy_ #[t, t'] o.type #[v, u]).run P w = .ok v' w') (h : K (a.put o.dst v') w') : if Region.wanted o (yielded ops a.tmps) = true then Oper.wp P o a w K Q else E := by
  have hw : Region.wanted o (yielded ops a.tmps) = true := by simp [Region.wanted, hgd]
  rw [if_pos hw]
  exact Lib.wp_copy_run w d s t t' ho v u hd hs hr h

theorem min_facts (c m : Nat) (h1 : 1 ≤ c) (h2 : 1 ≤ m) : ∃ d, d = Nat.min c m ∧ 1 ≤ d ∧ d ≤ c ∧ d ≤ m := ⟨_, rfl, Nat.le_min.2 ⟨h1, h2⟩, Nat.min_le_left _ _, Nat.min_le_right _ _⟩

/-- a buffer whose first k cells hold b -/
structure RBuf (w0 wr : World) (h N k : Nat) (b : Int) : Prop where
  below : Below h w0 wr
  there : ∀ j, j < N → (wr.cell? ⟨h, j, none⟩).isSome = true
  free : ∀ j, j < N → wr.frozen? ⟨h, j, none⟩ = false
  holds : ∀ j, j < k → wr.cell? ⟨h, j, none⟩ = some (.int .u8 b)

theorem RBuf.start (w : World) (cs : Array Value) (e : TypeId) (N q : Nat) (b : Int) (hN : N ≤ cs.size) : RBuf w ((w.alloc (.cells cs e)).drewN q) w.heap.size N 0 b where
  below := ⟨rfl, rfl, rfl, by simp, fun k hk => heap_alloc_old w _ hk⟩
  there := fun j hj => by
    rw [World.cell?_drewN, World.cell?_alloc_mark, Array.getElem?_eq_getElem (by omega)]
    rfl
  free := fun j _ => by
    rw [World.frozen?_drewN]
    have := World.frozen?_alloc_mark w cs e 0 0 j
    rw [this]
    simp
  holds := fun j hj => absurd hj (by omega)

/-- c cells more, all b, from wherever they are read. -/
theorem RBuf.copy {P : Program} {w0 wr : World} {h N k : Nat} {b : Int} (hb : RBuf w0 wr h N k b) (hkN : k < N) (t ty e : TypeId) (hu : P.underlying t = some (.slice e)) (hs : (P.info? e).map (·.size) = some 1)
    (a : Addr) (m cap c : Nat) (hc : c = Nat.min m (N - k)) (hsrc : ∀ j, j < c → wr.cell? (a.add j) = some (.int .u8 b)) :
    ∃ wr', (Builtin.copy_ #[t, t] ty #[Lib.tailV h N k, .slice (some a) m cap]).run P wr = .ok (.int .i64 (c : Int)) wr' ∧ RBuf w0 wr' h N (k + c) b := by
  have hne : ¬ N = k := by omega
  have hcl : c ≤ N - k := by rw [hc]; exact Nat.min_le_right _ _
  have hr := run_copy_cells (P := P) wr t t ty e h k (N - k) (N - k) a m cap (List.replicate c (Value.int .u8 b)) hu hs (by rw [List.length_replicate]; exact hc)
    (fun j u hj => by
      rw [List.getElem?_replicate] at hj
      by_cases h1 : j < c
      · rw [if_pos h1] at hj
        injection hj with hj
        subst hj
        exact hsrc j h1
      · rw [if_neg h1] at hj
        cases hj)
    (fun j hj => by rw [List.length_replicate] at hj; exact hb.there _ (by omega)) (fun j hj => by rw [List.length_replicate] at hj; exact hb.free _ (by omega))
    (fun u hu' => by rw [(List.mem_replicate.1 hu').2]; rfl)
  rw [List.length_replicate] at hr
  refine ⟨_, by unfold Lib.tailV; rw [if_neg hne]; exact hr, ?_⟩
  have hin := World.cell?_setCells_in h (List.replicate c (Value.int .u8 b)) k wr (fun j hj => by rw [List.length_replicate] at hj; exact hb.there _ (by omega))
  have hout := World.cell?_setCells_out h (List.replicate c (Value.int .u8 b)) k wr
  refine ⟨Lib.below_setCells h (Nat.le_refl _) _ _ hb.below, ?_, ?_, ?_⟩
  · intro j hj
    by_cases h1 : k ≤ j ∧ j < k + c
    · obtain ⟨d, rfl⟩ : ∃ d, j = k + d := ⟨j - k, by omega⟩
      rw [hin d (by rw [List.length_replicate]; omega)]
      rfl
    · rw [hout ⟨h, j, none⟩ (fun _ _ => by rw [List.length_replicate]; show j < _ ∨ _ ≤ j; omega)]
      exact hb.there j hj
  · intro j hj
    rw [World.frozen?_setCells]
    exact hb.free j hj
  · intro j hj
    by_cases h1 : j < k
    · rw [hout ⟨h, j, none⟩ (fun _ _ => by rw [List.length_replicate]; show j < _ ∨ _ ≤ j; omega)]
      exact hb.holds j h1
    · obtain ⟨d, rfl⟩ : ∃ d, j = k + d := ⟨j - k, by omega⟩
      rw [hin d (by rw [List.length_replicate]; omega)]
      simp

theorem RBuf.done {w0 wr : World} {N : Nat} {b : Int} (hb : RBuf w0 wr w0.heap.size N N b) (hN : N ≤ 9223372036854775807) :
    Kd.V (Kd.int .u8) 5 wr w0.heap.size (fun k_ => w0.heap.size ≤ k_) (.slice (some ⟨w0.heap.size, 0, none⟩) N N) (List.replicate N b) := by
  have hl : (List.replicate N b).length = N := List.length_replicate
  have hF : Kd.F (Kd.int .u8) wr (fun k_ => w0.heap.size ≤ k_) (some ⟨w0.heap.size, 0, none⟩) (List.replicate N b).length (List.replicate N b) := by
    intro W' hW
    refine ⟨rfl, by omega, fun hp => ⟨_, rfl, fun j p hj => ?_⟩⟩
    rw [List.getElem?_replicate] at hj
    by_cases h1 : j < N
    · rw [if_pos h1] at hj
      injection hj with hj
      subst hj
      refine ⟨[.int .u8 b], rfl, rfl, fun i u hu => ?_⟩
      match i, hu with
      | 0, hu =>
        have e : u = .int .u8 b := by simpa using hu.symm
        subst e
        have hcell := hb.holds j h1
        have hlt := World.block_lt_of_cell? wr _ hcell
        have := World.cell?_of_block (a := ⟨w0.heap.size, j, none⟩) (hW w0.heap.size (Nat.le_refl _) hlt)
        rw [show (Kd.int .u8).sz = 1 from rfl, Nat.mul_one, Nat.add_zero, add_plain, this]
        exact hcell
    · rw [if_neg h1] at hj
      cases hj
  have h2 := Kd.V_mk (e := 5) (base := w0.heap.size) (c := N) (by omega) hF
  rw [hl] at h2
  exact h2

set_option maxHeartbeats 4000000 in
set_option maxRecDepth 100000 in
theorem bytes_Repeat_one (ad : Addr) (c0 : Nat) (b : Int) (n : Nat) (w : World) (hc : w.cell? ad = some (.int .u8 b)) (h1 : 1 ≤ n) (hn : n ≤ 140737488355328) :
    Calls Try.prog 56 #[.slice (some ad) 1 c0, .int .i64 n] w fun e w' => ∃ v0_ : Value, e = .returned v0_ ∧ Kd.V (Kd.int .u8) 5 w' w.heap.size (fun k_ => w.heap.size ≤ k_) v0_ (List.replicate n b) ∧ Below w.heap.size w w' := by
  have e0 : ((n : Int) == 0) = false := by rw [beq_eq_false_iff_ne]; omega
  have e1 : decide ((n : Int) < 0) = false := by simp
  have e2 : decide ((9223372036854775807 : Int) < (n : Int)) = false := by simp; omega
  have hs5 : (Try.prog.info? 5).map (·.size) = some 1 := by kernel_rfl
  obtain ⟨cs, hrunM, hle, _⟩ := Lib.run_makeNoZero (P := Try.prog) w #[3] 22 5 Try.underlying22 n (by omega)
  have hcall : (callFunc 63 #[.int .i64 (n : Int)]).run Try.prog w = .ok (.value (.slice (some ⟨w.heap.size, 0, none⟩) n cs.size)) ((w.alloc (.cells cs 5)).drewN 2) := by
    rw [run_callFunc_extern Try.func63 (by kernel_rfl) (by kernel_rfl) (by kernel_rfl) (e := Extern.BytealgMakeNoZero.makeNoZero #[3] #[22]) (by kernel_rfl), hrunM]
    rfl
  clear hrunM
  have i0 : (0 : Int) ≤ (n : Int) := by omega
  have i1 : (n : Int) ≤ (cs.size : Int) := by omega
  have B0 := RBuf.start w cs 5 n 2 b hle
  have hc0 : ((w.alloc (.cells cs 5)).drewN 2).cell? ad = some (.int .u8 b) := Lib.Below.cellOf B0.below hc (Nat.le_refl _)
  have hsrc : ∀ j, j < 1 → ((w.alloc (.cells cs 5)).drewN 2).cell? (ad.add j) = some (.int .u8 b) := by
    intro j hj
    obtain rfl : j = 0 := by omega
    simpa [Addr.add] using hc0
  obtain ⟨w1, hr1, B1⟩ := B0.copy (P := Try.prog) (by omega) 22 3 5 Try.underlying22 hs5 ad 1 c0 1 (Nat.min_eq_left (by omega)).symm hsrc
  clear hsrc
  rw [Lib.tailV_zero] at hr1
  have HB1 := Aside0.mk B1
  have HN := Aside0.mk h1
  clear B0 hc0 hc B1
  obtain ⟨M, hM1, hM⟩ : ∃ M : Int, 1 ≤ M ∧ ((decide ((8192 : Int) < (n : Int)) = false ∧ M = n) ∨ (decide ((8192 : Int) < (n : Int)) = true ∧ M = 8192)) := by
    by_cases h8 : (8192 : Int) < (n : Int)
    · exact ⟨8192, by omega, .inr ⟨decide_eq_true h8, rfl⟩⟩
    · exact ⟨n, by omega, .inl ⟨decide_eq_false h8, rfl⟩⟩
  rcases hM with ⟨e3, rfl⟩ | ⟨e3, rfl⟩
  · go_enter Try.func56, Try.ntmps56
    go_wp2_with fail
    refine (bits_Mul_one n _ hn).mono ?_
    rintro e w' ⟨rfl, rfl⟩
    go_wp2_with (at_builtin; refine Lib.wpList_copy_run _ rfl _ _ 22 22 rfl _ _ rfl rfl hr1 ?_)
    go_loopw [10, 11] (fun v10 v11 w' => ∃ k : Nat, 1 ≤ k ∧ k ≤ n ∧ v10 = .int .i64 k ∧ Aside0 (RBuf w w' w.heap.size n k b)) (fun v10 _ _ => n - (intOf v10).toNat)
    case atStart => exact ⟨1, Nat.le_refl _, h1, rfl, HB1⟩
    case round =>
      obtain ⟨k, hk1, hkn, rfl, HK⟩ := hrel
      by_cases hlt : k < n
      · obtain ⟨d, hd, hd1, hd2, hd3⟩ : ∃ d, d = Nat.min k (n - k) ∧ 1 ≤ d ∧ d ≤ k ∧ d ≤ n - k := min_facts k (n - k) (by omega) (by omega)
        have BD : RBuf w wr.drew w.heap.size n k b := ⟨below_drew HK.out.below, HK.out.there, HK.out.free, HK.out.holds⟩
        obtain ⟨w2, hr2, B2⟩ := BD.copy (P := Try.prog) hlt 22 3 5 Try.underlying22 hs5 ⟨w.heap.size, 0, none⟩ k n d hd (fun j hj => by
          rw [add_plain]
          exact BD.holds j (by omega))
        have hsl1 : ∀ W, (Instr.slice 22 (.slice (some ⟨w.heap.size, 0, none⟩) n n) (some (.int .i64 (k : Int))) none none).run Try.prog W = .ok (Lib.tailV w.heap.size n k) W := fun W => Lib.run_slice_tailV W 22 5 Try.underlying22 (fun w => by kernel_rfl) _ n k (by omega)
        have HB2 := Aside0.mk B2
        have hsum : IntKind.i64.wrap ((k : Int) + (d : Int)) = ((k + d : Nat) : Int) := by rw [IntWalk.i64_in _ (by omega)]; omega
        clear B2 BD hd
        go_wp2_with fail
        go_region_law ((with_reducible refine step_copy_run rfl (.tmp 70) (.tmp 73) 22 22 rfl _ _ ?h1 ?h2 hr2 ?_); (case h1 => simp [Act.eval, Act.put]; done); (case h2 => simp [Act.eval, Act.put]; done))
        simp [Act.put, hsum]
        go_roundw
        case rel => first | exact ⟨k + d, by omega, by omega, by first | rfl | go_num, HB2⟩ | ((repeat apply Exists.intro); exact ⟨⟨k + d, by omega, by omega, by first | rfl | go_num, HB2⟩, rfl⟩)
        case measure => simp [intOf]; omega
      · obtain rfl : k = n := by omega
        go_wp2
        go_ret
        exact ⟨_, rfl, HK.out.done (by omega), HK.out.below⟩
  · go_enter Try.func56, Try.ntmps56
    go_wp2_with fail
    refine (bits_Mul_one n _ hn).mono ?_
    rintro e w' ⟨rfl, rfl⟩
    go_wp2_with (at_builtin; refine Lib.wpList_copy_run _ rfl _ _ 22 22 rfl _ _ rfl rfl hr1 ?_)
    go_loopw [10, 11] (fun v10 v11 w' => ∃ k : Nat, 1 ≤ k ∧ k ≤ n ∧ v10 = .int .i64 k ∧ Aside0 (RBuf w w' w.heap.size n k b)) (fun v10 _ _ => n - (intOf v10).toNat)
    case atStart => exact ⟨1, Nat.le_refl _, h1, rfl, HB1⟩
    case round =>
      obtain ⟨k, hk1, hkn, rfl, HK⟩ := hrel
      by_cases hlt : k < n
      · by_cases hk8 : k ≤ 8192
        · obtain ⟨d, hd, hd1, hd2, hd3⟩ : ∃ d, d = Nat.min k (n - k) ∧ 1 ≤ d ∧ d ≤ k ∧ d ≤ n - k := min_facts k (n - k) (by omega) (by omega)
          have BD : RBuf w wr.drew w.heap.size n k b := ⟨below_drew HK.out.below, HK.out.there, HK.out.free, HK.out.holds⟩
          obtain ⟨w2, hr2, B2⟩ := BD.copy (P := Try.prog) hlt 22 3 5 Try.underlying22 hs5 ⟨w.heap.size, 0, none⟩ k n d hd (fun j hj => by
            rw [add_plain]
            exact BD.holds j (by omega))
          have hsl1 : ∀ W, (Instr.slice 22 (.slice (some ⟨w.heap.size, 0, none⟩) n n) (some (.int .i64 (k : Int))) none none).run Try.prog W = .ok (Lib.tailV w.heap.size n k) W := fun W => Lib.run_slice_tailV W 22 5 Try.underlying22 (fun w => by kernel_rfl) _ n k (by omega)
          have HB2 := Aside0.mk B2
          have hsum : IntKind.i64.wrap ((k : Int) + (d : Int)) = ((k + d : Nat) : Int) := by rw [IntWalk.i64_in _ (by omega)]; omega
          clear B2 BD hd
          go_wp2_with fail
          go_region_law ((with_reducible refine step_copy_run rfl (.tmp 70) (.tmp 73) 22 22 rfl _ _ ?h1 ?h2 hr2 ?_); (case h1 => simp [Act.eval, Act.put]; done); (case h2 => simp [Act.eval, Act.put]; done))
          simp [Act.put, hsum]
          go_roundw
          case rel => first | exact ⟨k + d, by omega, by omega, by first | rfl | go_num, HB2⟩ | ((repeat apply Exists.intro); exact ⟨⟨k + d, by omega, by omega, by first | rfl | go_num, HB2⟩, rfl⟩)
          case measure => simp [intOf]; omega
        · have h8n : (8192 : Int) ≤ (n : Int) := Int.le_of_lt (of_decide_eq_true e3)
          obtain ⟨d, hd, hd1, hd2, hd3⟩ : ∃ d, d = Nat.min 8192 (n - k) ∧ 1 ≤ d ∧ d ≤ 8192 ∧ d ≤ n - k := min_facts 8192 (n - k) (by omega) (by omega)
          have BD : RBuf w wr.drew w.heap.size n k b := ⟨below_drew HK.out.below, HK.out.there, HK.out.free, HK.out.holds⟩
          obtain ⟨w2, hr2, B2⟩ := BD.copy (P := Try.prog) hlt 22 3 5 Try.underlying22 hs5 ⟨w.heap.size, 0, none⟩ 8192 n d hd (fun j hj => by
            rw [add_plain]
            exact BD.holds j (by omega))
          have hsl1 : ∀ W, (Instr.slice 22 (.slice (some ⟨w.heap.size, 0, none⟩) n n) (some (.int .i64 (k : Int))) none none).run Try.prog W = .ok (Lib.tailV w.heap.size n k) W := fun W => Lib.run_slice_tailV W 22 5 Try.underlying22 (fun w => by kernel_rfl) _ n k (by omega)
          have HB2 := Aside0.mk B2
          have hsum : IntKind.i64.wrap ((k : Int) + (d : Int)) = ((k + d : Nat) : Int) := by rw [IntWalk.i64_in _ (by omega)]; omega
          clear B2 BD hd
          go_wp2_with fail
          go_region_law ((with_reducible refine step_copy_run rfl (.tmp 70) (.tmp 73) 22 22 rfl _ _ ?h1 ?h2 hr2 ?_); (case h1 => simp [Act.eval, Act.put]; done); (case h2 => simp [Act.eval, Act.put]; done))
          simp [Act.put, hsum]
          go_roundw
          case rel => first | exact ⟨k + d, by omega, by omega, by first | rfl | go_num, HB2⟩ | ((repeat apply Exists.intro); exact ⟨⟨k + d, by omega, by omega, by first | rfl | go_num, HB2⟩, rfl⟩)
          case measure => simp [intOf]; omega
      · obtain rfl : k = n := by omega
        go_wp2
        go_ret
        exact ⟨_, rfl, HK.out.done (by omega), HK.out.below⟩
theorem V_empty (W : World) (base : Nat) (ok : Nat → Prop) (A : Option Addr) (c : Nat) : Kd.V (Kd.int .u8) 5 W base ok (.slice A 0 c) ([] : List Int) :=
  ⟨A, c, rfl, Nat.zero_le _, fun W' hW => ⟨rfl, by simp, fun hp => absurd hp (by simp)⟩⟩

set_option maxHeartbeats 4000000 in
set_option maxRecDepth 100000 in
theorem bytes_Repeat_zero (v : Value) (w : World) :
    Calls Try.prog 56 #[v, .int .i64 0] w fun e w' => ∃ v0_ : Value, e = .returned v0_ ∧ Kd.V (Kd.int .u8) 5 w' w.heap.size (fun k_ => w.heap.size ≤ k_) v0_ ([] : List Int) ∧ Below w.heap.size w w' := by
  go_enter Try.func56, Try.ntmps56
  go_wp2
  go_ret
  exact ⟨_, rfl, V_empty _ _ _ _ _, (Below.refl _ _).alloc (Nat.le_refl _) _⟩

def text_spaces.f (a0 : Int) : Option (List Int) := if -9223372036854775808 ≤ a0 then (if a0.toNat < 140737488355328 then some (List.replicate a0.toNat 32) else none) else none

set_option maxHeartbeats 4000000 in
set_option maxRecDepth 100000 in
theorem text_padded_empty (a0 : Int) (w : World) (h0 : a0.toNat < 140737488355328) (hlo : -9223372036854775808 ≤ a0) :
    Calls Try.prog 47 #[.string ⟨#[]⟩, .int .i64 a0] w fun e w' => ∃ v0_ : Value, e = .returned v0_ ∧ Kd.V (Kd.int .u8) 5 w' w.heap.size (fun k_ => w.heap.size ≤ k_) v0_ (List.replicate a0.toNat 32) ∧ Below w.heap.size w w' := by
  by_cases hp : 1 ≤ a0
  · obtain ⟨n, rfl⟩ := Int.eq_ofNat_of_zero_le (show 0 ≤ a0 by omega)
    have hlt : ¬ (n : Int) < 0 := by omega
    rw [Int.toNat_natCast] at h0 ⊢
    go_enter Try.func47, Try.ntmps47
    go_wp2_with fail
    have hcell : (w.alloc (.cells #[.int .u8 32] 5)).cell? ⟨w.heap.size, 0, none⟩ = some (.int .u8 32) := by simp
    refine (bytes_Repeat_one _ 1 32 n _ hcell (by omega) (by omega)).mono ?_
    rintro e w1 ⟨v0, rfl, ⟨A, c, rfl, hle, hF⟩, hb⟩
    rw [List.length_replicate] at hle hF
    have HF := Aside0.mk hF
    have HB := Aside0.mk hb
    clear hF hb hcell
    obtain ⟨ad, rfl, _⟩ := (Kd.F_now HF.out).2.2 (by omega)
    go_wp2
    go_ret
    refine ⟨_, rfl, ?_, (Below.refl _ _).alloc (Nat.le_refl _) _ |>.trans (HB.out.mono (by simp))⟩
    have hV := Kd.V_mk (e := 5) (base := w.heap.size) (c := c) (xs := List.replicate n (32 : Int)) (A := some ad) (by rw [List.length_replicate]; exact hle) (by rw [List.length_replicate]; exact Kd.F_mono (ok' := fun k_ => w.heap.size ≤ k_) HF.out (fun k hk => by simp at hk; omega))
    rw [List.length_replicate] at hV
    exact hV
  · have hz : a0.toNat = 0 := by omega
    rw [hz]
    rcases (show a0 < 0 ∨ a0 = 0 by omega) with hn | rfl
    all_goals
      go_enter Try.func47, Try.ntmps47
      go_wp2_with fail
      refine (bytes_Repeat_zero _ _).mono ?_
      rintro e w1 ⟨v0, rfl, ⟨A, c, rfl, hle, hF⟩, hb⟩
      have HB := Aside0.mk hb
      clear hF hb hle
      have hV := V_empty w1 w.heap.size (fun k_ => w.heap.size ≤ k_) A c
      have HV := Aside0.mk hV
      clear hV
      cases A with
      | none =>
        go_wp2
        go_ret
        exact ⟨_, rfl, HV.out, (Below.refl _ _).alloc (Nat.le_refl _) _ |>.trans (HB.out.mono (by simp))⟩
      | some ad =>
        go_wp2
        go_ret
        exact ⟨_, rfl, HV.out, (Below.refl _ _).alloc (Nat.le_refl _) _ |>.trans (HB.out.mono (by simp))⟩

set_option maxHeartbeats 4000000 in
set_option maxRecDepth 100000 in
theorem text_spaces.calls (a0 : Int) (r : List Int) (w : World) (h : text_spaces.f a0 = some r) :
    Calls Try.prog 32 #[.int .i64 a0] w fun e w' => ∃ v0_ : Value, e = .returned v0_ ∧ Kd.V (Kd.int .u8) 5 w' w.heap.size (fun k_ => w.heap.size ≤ k_) v0_ r ∧ Below w.heap.size w w' := by
  unfold text_spaces.f at h
  by_cases hlo : -9223372036854775808 ≤ a0
  · rw [if_pos hlo] at h
    by_cases hhi : a0.toNat < 140737488355328
    · rw [if_pos hhi] at h
      obtain rfl := Option.some.inj h
      have H1 := Aside0.mk hlo
      have H2 := Aside0.mk hhi
      clear hlo hhi h
      go_enter Try.func32, Try.ntmps32
      go_wp2_with fail
      refine (text_padded_empty a0 _ H2.out H1.out).mono ?_
      rintro e w1 ⟨v0, rfl, hV, hb⟩
      have HV := Aside0.mk hV
      have HB := Aside0.mk hb
      clear hV hb
      go_wp2
      go_ret
      exact ⟨_, rfl, HV.out, HB.out⟩
    · rw [if_neg hhi] at h
      exact absurd h (by simp)
  · rw [if_neg hlo] at h
    exact absurd h (by simp)
end Go.Proofs.Ytkfpghggejikiaa.P
