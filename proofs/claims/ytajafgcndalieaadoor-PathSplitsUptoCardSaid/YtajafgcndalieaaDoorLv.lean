/- The path laws: the document's examples live. -/
import Derived.Test.YtajafgcndalieaaDoorPx8
namespace Go.Proofs.YtajafgcndalieaaDoor.Pure
open Go.RowKit Go.Proofs.YtajafgcndalieaaDoor.P Go.Proofs.YtajafgcndalieaaDoorW.PrintWords
set_option maxRecDepth 100000 in
theorem lives : Ev (fun k => tinsellaw03_lives.f k) true := Ev.of (fun k => tinsellaw03_lives.mono k) (k := 60) (by decide +kernel)
end Go.Proofs.YtajafgcndalieaaDoor.Pure
