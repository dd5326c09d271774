/- The law PathEnds, the plain part: Base and Dir answer as the document's; the examples live. -/
import Derived.Test.YtajafgcndalieaaDoorPl1
import Derived.Test.YtajafgcndalieaaDoorPx13
namespace Go.Proofs.YtajafgcndalieaaDoor.Pure
set_option linter.unusedSimpArgs false
set_option linter.unusedVariables false
open Go.RowKit Go.Proofs.YtajafgcndalieaaDoor.P Go.Proofs.YtajafgcndalieaaDoorW.PrintWords Go.Proofs.YtajafgcndalieaaDoorW.PrintLast Go.Proofs.YtajafgcndalieaaDoorW.PrintMore
set_option maxRecDepth 100000 in
theorem lives : Ev (fun k => tinsellaw03_lives.f k) true := Ev.of (fun k => tinsellaw03_lives.mono k) (k := 60) (by decide +kernel)
theorem PathEnds (a0 a1 : ByteArray) (h0 : a0.size ≤ 140737488351232) : ∃ k, tinsellaw03_PathEnds.f k a0 a1 = some true := by
  refine Ev.rounds (g := fun k => tinsellaw03_PathEnds.f k a0 a1) ?_
  unfold tinsellaw03_PathEnds.f
  refine Ev.bind (pbase a0 a1 (by omega)) (Ev.bind (rbase a0 a1 (by omega)) ?_)
  simp only [if_true]
  refine Ev.bind (pdir a0 (by omega)) (Ev.bind (rdir a0 (by omega)) ?_)
  simp only [if_true]
  exact Ev.bind lives (Ev.now _)
end Go.Proofs.YtajafgcndalieaaDoor.Pure
