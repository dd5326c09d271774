/- (*args.splitter).end by hand: a struct behind a pointer that holds two rows. -/
import Derived.Test.YthnfaipbkocljaaDoorWLast
import Derived.Test.YthnfaipbkocljaaDoorWMore
import Derived.Test.YthnfaipbkocljaaDoorProg
import Derived.Deep.RegionLaw
namespace Go.Proofs.YthnfaipbkocljaaDoor.P
open Go.RowKit Go.Proofs.YthnfaipbkocljaaDoorW.PrintWords Go.Proofs.YthnfaipbkocljaaDoorW.PrintLast Go.Proofs.YthnfaipbkocljaaDoorW.PrintMore
set_option linter.unusedVariables false
set_option linter.unusedSimpArgs false

/-- the splitter's block and its two rows -/
def SpIs (base g : Nat) (w0 W : World) (ws : List ByteArray) (wd : List Int) (op : Bool) : Prop :=
  ∃ Wv Dv, W.heap[g]? = some (.cells #[Wv, Dv, .bool op] 83 (0, 0)) ∧ Kd.R Kd.string 9 W base (fun _ => True) Wv ws ∧ Kd.R (Kd.int .u8) 5 W base (fun _ => True) Dv wd ∧ Below base w0 W ∧ base ≤ g ∧ base ≤ W.heap.size
theorem sp_cell {W : World} {B t : Nat} {cs : Array Value} (h : W.heap[B]? = some (.cells cs t (0, 0))) (i : Nat) (v : Value) (hv : cs[i]? = some v) : W.cell? ⟨B, i, none⟩ = some v := by simp [World.cell?, h, hv]
theorem sp_frozen {W : World} {B t : Nat} {cs : Array Value} (h : W.heap[B]? = some (.cells cs t (0, 0))) (i : Nat) : W.frozen? ⟨B, i, none⟩ = false := by simp [World.frozen?, h]
theorem sp_set3 {W : World} {B t : Nat} {a b c : Value} (u : Value) (i : Nat) (h : W.heap[B]? = some (.cells #[a, b, c] t (0, 0))) : (W.setCell ⟨B, i, none⟩ u).heap[B]? = some (.cells (#[a, b, c].set! i u) t (0, 0)) := by
  obtain ⟨hlt, hk⟩ := Array.getElem?_eq_some_iff.1 h
  show (W.heap.modify B _)[B]? = _
  rw [Array.getElem?_eq_getElem (by rw [Array.size_modify]; exact hlt), Array.getElem_modify_self, hk]
  rfl
theorem sp_kept {W W' : World} {row : Option Nat} {B t : Nat} {cs : Array Value} (h : W.heap[B]? = some (.cells cs t (0, 0))) (hg : W.grownBy W' row) (hne : some B ≠ row) : W'.heap[B]? = some (.cells cs t (0, 0)) := (hg.block B (Array.getElem?_eq_some_iff.1 h).1 hne).trans h
theorem sp_alloc {W : World} {B t : Nat} {cs : Array Value} (h : W.heap[B]? = some (.cells cs t (0, 0))) (o : Obj) : (W.alloc o).heap[B]? = some (.cells cs t (0, 0)) := sp_kept h (World.grownBy_alloc W o none) (by simp)
theorem sp_drewN {W : World} {B t : Nat} {cs : Array Value} (h : W.heap[B]? = some (.cells cs t (0, 0))) (n : Nat) : (W.drewN n).heap[B]? = some (.cells cs t (0, 0)) := h
/-- a cell of the splitter is set to a value -/
theorem SpIs.set0 {base g : Nat} {w0 W : World} {Wv Dv Wv' : Value} {ws' : List ByteArray} {wd : List Int} {op : Bool} (h : W.heap[g]? = some (.cells #[Wv, Dv, .bool op] 83 (0, 0))) (h1 : Kd.R Kd.string 9 W base (fun _ => True) Wv' ws') (h2 : Kd.R (Kd.int .u8) 5 W base (fun _ => True) Dv wd) (h3 : Below base w0 W) (h4 : base ≤ g) (h5 : base ≤ W.heap.size) : SpIs base g w0 (W.setCell ⟨g, 0, none⟩ Wv') ws' wd op :=
  ⟨Wv', Dv, sp_set3 Wv' 0 h, Kd.R_set h1 h (by intro q hq; revert q hq; simp [Kd.string, Kd.scalar]) 0 _, Kd.R_set h2 h (by intro q hq; revert q hq; simp [Kd.int, Kd.scalar]) 0 _, h3.setCell h4 _, h4, by simpa using h5⟩
theorem SpIs.set1 {base g : Nat} {w0 W : World} {Wv Dv Dv' : Value} {ws : List ByteArray} {wd' : List Int} {op : Bool} (h : W.heap[g]? = some (.cells #[Wv, Dv, .bool op] 83 (0, 0))) (h1 : Kd.R Kd.string 9 W base (fun _ => True) Wv ws) (h2 : Kd.R (Kd.int .u8) 5 W base (fun _ => True) Dv' wd') (h3 : Below base w0 W) (h4 : base ≤ g) (h5 : base ≤ W.heap.size) : SpIs base g w0 (W.setCell ⟨g, 1, none⟩ Dv') ws wd' op :=
  ⟨Wv, Dv', sp_set3 Dv' 1 h, Kd.R_set h1 h (by intro q hq; revert q hq; simp [Kd.string, Kd.scalar]) 1 _, Kd.R_set h2 h (by intro q hq; revert q hq; simp [Kd.int, Kd.scalar]) 1 _, h3.setCell h4 _, h4, by simpa using h5⟩
theorem SpIs.set2 {base g : Nat} {w0 W : World} {ws : List ByteArray} {wd : List Int} {op : Bool} (b : Bool) (h : SpIs base g w0 W ws wd op) : SpIs base g w0 (W.setCell ⟨g, 2, none⟩ (.bool b)) ws wd b := by
  obtain ⟨Wv, Dv, h, h1, h2, h3, h4, h5⟩ := h
  exact ⟨Wv, Dv, sp_set3 _ 2 h, Kd.R_set h1 h (by intro q hq; revert q hq; simp [Kd.string, Kd.scalar]) 2 _, Kd.R_set h2 h (by intro q hq; revert q hq; simp [Kd.int, Kd.scalar]) 2 _, h3.setCell h4 _, h4, by simpa using h5⟩
/-- another row is written, or grown: by types -/
theorem sp_over {W w1 : World} {g t e b : Nat} {α : Type} {d : Kd α} {ok : Nat → Prop} {v : Value} {ys : List α} {cs : Array Value} (h : W.heap[g]? = some (.cells cs t (0, 0))) (hv : d.R e W b ok v ys) (ht : e ≠ t) (hg : W.grownBy w1 v.ownBlock) : w1.heap[g]? = some (.cells cs t (0, 0)) := sp_kept h hg (Kd.R_ne hv h ht)

theorem sp_info9 : (Tryd.prog.info? 9).map (fun i => (i.zero, i.size, i.bytes)) = some (some (.string ⟨#[]⟩), 1, 16) := by kernel_rfl
theorem sp_info5 : (Tryd.prog.info? 5).map (fun i => (i.zero, i.size, i.bytes)) = some (some (.int .u8 0), 1, 1) := by kernel_rfl
theorem ne59 : ∀ q, q ∈ 5 :: (Kd.int .u8).E → q ≠ 9 := by simp [Kd.int, Kd.scalar]
theorem ne95 : ∀ q, q ∈ 9 :: Kd.string.E → q ≠ 5 := by simp [Kd.string, Kd.scalar]
/-- behind the append to the words -/
theorem sp_after0 {base g : Nat} {w0 W w1 : World} {Wv Dv v1 : Value} {ws ws' : List ByteArray} {wd : List Int} {op : Bool} (hb : W.heap[g]? = some (.cells #[Wv, Dv, .bool op] 83 (0, 0))) (hW : Kd.R Kd.string 9 W base (fun _ => True) Wv ws) (hD : Kd.R (Kd.int .u8) 5 W base (fun _ => True) Dv wd) (hg : base ≤ g) (hs : base ≤ W.heap.size)
    (ho : Kd.R Kd.string 9 w1 base (fun _ => True) v1 ws') (hb1 : Below base w0 w1) (hg1 : W.grownBy w1 Wv.ownBlock) : w1.cell? ⟨g, 0, none⟩ = some Wv ∧ w1.frozen? ⟨g, 0, none⟩ = false ∧ Aside0 (SpIs base g w0 (w1.setCell ⟨g, 0, none⟩ v1) ws' wd op) :=
  have k0 := sp_over hb hW (by decide) hg1
  ⟨sp_cell k0 0 _ rfl, sp_frozen k0 0, ⟨SpIs.set0 k0 ho (Kd.R_over hD hW ne59 hg1) hb1 hg (Nat.le_trans hs hg1.size)⟩⟩
/-- behind an append to the word -/
theorem sp_after1 {base g : Nat} {w0 W w1 : World} {Wv Dv v1 : Value} {ws : List ByteArray} {wd wd' : List Int} {op : Bool} (hb : W.heap[g]? = some (.cells #[Wv, Dv, .bool op] 83 (0, 0))) (hW : Kd.R Kd.string 9 W base (fun _ => True) Wv ws) (hD : Kd.R (Kd.int .u8) 5 W base (fun _ => True) Dv wd) (hg : base ≤ g) (hs : base ≤ W.heap.size)
    (ho : Kd.R (Kd.int .u8) 5 w1 base (fun _ => True) v1 wd') (hb1 : Below base w0 w1) (hg1 : W.grownBy w1 Dv.ownBlock) : w1.cell? ⟨g, 1, none⟩ = some Dv ∧ w1.frozen? ⟨g, 1, none⟩ = false ∧ Aside0 (SpIs base g w0 (w1.setCell ⟨g, 1, none⟩ v1) ws wd' op) :=
  have k0 := sp_over hb hD (by decide) hg1
  ⟨sp_cell k0 1 _ rfl, sp_frozen k0 1, ⟨SpIs.set1 k0 (Kd.R_over hW hD ne95 hg1) ho hb1 hg (Nat.le_trans hs hg1.size)⟩⟩

def endW (op : Bool) (ws : List ByteArray) (wd : List Int) : List ByteArray := if op then ws ++ [strOfNums wd] else ws
set_option maxRecDepth 100000 in
set_option maxHeartbeats 4000000 in
theorem splitter_end.calls (base g : Nat) (w0 w : World) (ws : List ByteArray) (wd : List Int) (op : Bool) (h : SpIs base g w0 w ws wd op) (hl : (ws.length + 1) * 16 ≤ 140737488355328) :
    Calls Tryd.prog 40 #[.pointer (some ⟨g, 0, none⟩)] w fun e w' => e = .returned (.tuple #[]) ∧ SpIs base g w0 w' (endW op ws wd) [] false := by
  obtain ⟨Wv, Dv, hb, hW, hD, hB, hg, hs⟩ := h
  have c0 := sp_cell hb 0 Wv rfl
  have c1 := sp_cell hb 1 Dv rfl
  have c2 := sp_cell hb 2 (.bool op) rfl
  have f0 := sp_frozen hb 0
  have f1 := sp_frozen hb 1
  have f2 := sp_frozen hb 2
  have HL := Aside0.mk hl
  have HW := Aside0.mk hW
  have HD := Aside0.mk hD
  have HBB := Aside0.mk hB
  clear hl hW hD hB
  cases op with
  | false =>
    go_enter Tryd.func40, Tryd.ntmps40
    go_wp2
    refine bodyPost_end (v := .tuple #[]) (by simp [results, go_sem]) rfl ?_
    refine ⟨rfl, SpIs.set2 false (SpIs.set1 hb HW.out (Kd.R_nil _ _ _ _ _) HBB.out hg hs)⟩
  | true =>
    obtain ⟨Ad, cd, rfl, hcd, hCd⟩ := Kd.R_reads HD.out
    have HC := Aside0.mk hCd
    clear hCd
    have hcv : ∀ n, (convert 68 9 (.slice Ad wd.length cd)).run Tryd.prog (w.drewN n) = .ok (.string (strOfNums wd)) (w.drewN n) := fun n => Kd.C_string (P := Tryd.prog) (A := Ad) (c := cd) Tryd.underlying68 Tryd.underlying5 Tryd.underlying9 (Kd.C_drewN HC.out n)
    have ca0 : (w.alloc (Obj.cells #[Value.string (strOfNums wd)] 9)).cell? ⟨g, 0, none⟩ = some Wv := sp_cell (sp_alloc hb _) 0 Wv rfl
    have hcv0 := Kd.C_string (P := Tryd.prog) (A := Ad) (c := cd) Tryd.underlying68 Tryd.underlying5 Tryd.underlying9 HC.out
    have hcv1 : (convert 68 9 (.slice Ad wd.length cd)).run Tryd.prog w.drew = .ok (.string (strOfNums wd)) w.drew := hcv 1
    have hcv2 : (convert 68 9 (.slice Ad wd.length cd)).run Tryd.prog w.drew.drew = .ok (.string (strOfNums wd)) w.drew.drew := hcv 2
    go_enter Tryd.func40, Tryd.ntmps40
    go_wp2
    go_region_law ((first | rw [show (w.alloc (Obj.cells #[Value.string (strOfNums wd)] 9)).drew = w.drew.alloc (.cells [Value.string (strOfNums wd)].toArray 9) from rfl] | skip); refine Kd.R_append_step Kd.string (w0 := w0) base (by rfl) (.tmp 10) (.tmp 16) 22 9 (.string ⟨#[]⟩) 16 rfl Tryd.underlying22 sp_info9 rfl (by decide) (by omega) Wv ws (strOfNums wd) [.string (strOfNums wd)] (fun _ => True) (fun _ => False) ?hs ?hx ?hp (fun _ hk => hk.elim) (fun _ _ => trivial) ?hO ?hB ?hbase HL.out ?_; (case hs => rfl); (case hx => rfl); (case hp => rfl); (case hO => (with_reducible repeat (first | apply Kd.R_alloc | apply Kd.R_drewN | apply Kd.R_drew)); exact HW.out); (case hB => exact below_drew HBB.out); (case hbase => exact hs); intro v1 w1 ho hb1 hg1 hat; obtain ⟨c0', f0', HN⟩ := sp_after0 (W := w.drew) hb (Kd.R_drew HW.out) (Kd.R_drew HD.out) hg hs ho hb1 hg1; obtain ⟨A1, n1, cc1, rfl⟩ : ∃ A n c, v1 = .slice A n c := (Kd.R_slice ho).elim fun A h => h.elim fun c h => ⟨A, _, c, h⟩; clear hat ho hb1 hg1)
    all_goals
      generalize (w1.setCell ⟨g, 0, none⟩ (.slice A1 n1 cc1)) = w2 at HN ⊢
      obtain ⟨Wv2, Dv2, hb2, hW2, hD2, hB2, _, hs2⟩ := HN.out
      have d1 := sp_cell hb2 1 _ rfl
      have d2 := sp_cell hb2 2 _ rfl
      have g1 := sp_frozen hb2 1
      have g2 := sp_frozen hb2 2
      have HF := Aside0.mk (SpIs.set2 false (SpIs.set1 hb2 hW2 (Kd.R_nil _ _ _ _ _) hB2 hg hs2))
      clear c0 c1 c2 f0 f1 f2 hcv hcv0 hcv1 hcv2 ca0 c0' f0' hb HN hW2 hD2 hB2 hb2
      go_wp2
      exact bodyPost_end (v := .tuple #[]) (by simp [results, go_sem]) rfl ⟨rfl, HF.out⟩
end Go.Proofs.YthnfaipbkocljaaDoor.P
