/- A closed fact of the row of ScriptKnown. No condition. -/
import Derived.Test.YtejdijnbknpdbaaGreatDoorK2
namespace Go.Proofs.YtejdijnbknpdbaaGreatDoor
open Go Go.RowKit Go.Lib
set_option maxRecDepth 1000000
theorem fact12 : (Rows.scriptKnownRow.recurses == Tryz.prog.recurses 3) = true := by kernel_rfl
end Go.Proofs.YtejdijnbknpdbaaGreatDoor
