/- Closed facts of the row of ScriptKnown. No condition. -/
import Derived.Test.YtejdijnbknpdbaaGreatDoorK2
namespace Go.Proofs.YtejdijnbknpdbaaGreatDoor
open Go Go.RowKit Go.Lib
set_option maxRecDepth 1000000
theorem fact1 : Rows.scriptKnownRow.wf (OpenSpec.ofChange Rows.scriptKnownSpec) = true := by kernel_rfl
theorem fact2 : laidOutB Tryz.prog = true := by kernel_rfl
theorem fact3 : mapsRowed Tryz.prog = true := by kernel_rfl
theorem fact4 : Tryz.f3.params.all (Tryz.prog.readableRec ·) = true := by kernel_rfl
theorem fact5 : namedTie Tryz.prog Rows.scriptKnownRow.named Rows.scriptKnownSpec.vars = true := by kernel_rfl
theorem fact6 : (Rows.scriptKnownRow.stops == []) = true := by kernel_rfl
theorem fact7 : (Tryz.prog.stops == []) = true := by kernel_rfl
theorem fact8 : (Rows.scriptKnownRow.knobs == []) = true := by kernel_rfl
theorem fact9 : (Tryz.prog.stopKnobs == []) = true := by kernel_rfl
theorem fact14 : (Rows.scriptKnownRow.maps == (Tryz.f3.params.toList ++ Rows.scriptKnownSpec.plain.varTypes Tryz.prog).any (Tryz.prog.mapsRec ·)) = true := by kernel_rfl
theorem fact15 : (Rows.scriptKnownRow.ifaces == (Tryz.f3.params.toList ++ Rows.scriptKnownSpec.plain.varTypes Tryz.prog).any (Tryz.prog.ifacesRec ·)) = true := by kernel_rfl
theorem fact16 : (Rows.scriptKnownRow.mapsOut == Tryz.prog.mapsAmong Tryz.f3.resultTypes.toList) = true := by kernel_rfl
theorem fact17 : (Rows.scriptKnownRow.loops == (Tryz.f3.params.toList ++ Rows.scriptKnownSpec.plain.varTypes Tryz.prog).any (Tryz.prog.loopsFrom ·)) = true := by kernel_rfl
theorem fact18 : (Rows.scriptKnownRow.wideKeys == (Tryz.f3.params.toList ++ Rows.scriptKnownSpec.plain.varTypes Tryz.prog ++ Tryz.f3.resultTypes.toList).any (Tryz.prog.wideKeysFrom ·)) = true := by kernel_rfl
theorem fact19 : Rows.scriptKnownSpec.vars.all (Tryz.prog.varReadable ·) = true := by kernel_rfl
theorem fact20 : Tryz.f3.resultTypes.all (fun t => Tryz.prog.readableRec t && decide (t < Tryz.prog.types.size)) = true := by kernel_rfl
theorem fact21 : (Rows.scriptKnownRow.ifacesOut == Tryz.f3.resultTypes.toList.any (Tryz.prog.ifacesRec ·)) = true := by kernel_rfl
theorem fact22 : (Rows.scriptKnownRow.loopsOut == Tryz.f3.resultTypes.toList.any (Tryz.prog.loopsFrom ·)) = true := by kernel_rfl
theorem fact23 : (Rows.scriptKnownRow.plainKeys == Tryz.prog.plainKeys) = true := by kernel_rfl
theorem fact24 : Rows.scriptKnownRow.shortTexts.isNone = true := by kernel_rfl
theorem fact25 : Tryz.prog.stopsHeard = true := by kernel_rfl
theorem fact26 : Tryz.prog.mayEnter = true := by kernel_rfl
theorem fact27 : (Rows.scriptKnownRow.lifted == Tryz.prog.liftsFinal) = true := by kernel_rfl
theorem fact28 : (Tryz.prog.make == some Rows.scriptKnownRow.make) = true := by kernel_rfl
theorem fact29 : (Rows.scriptKnownRow.kinds == (if Rows.scriptKnownRow.domain.isEmpty then [] else Tryz.f3.params.toList.map fun t => match Tryz.prog.underlying t with | some (.int k) => some k | _ => none)) = true := by kernel_rfl
theorem fact30 : (Rows.scriptKnownRow.pinned == Rows.scriptKnownRow.pinnedBy) = true := by kernel_rfl
theorem fact31 : (Rows.scriptKnownRow.veiled == (Tryz.f3.params.toList ++ Rows.scriptKnownSpec.plain.varTypes Tryz.prog ++ Tryz.f3.resultTypes.toList).any (Tryz.prog.veiledRec ·)) = true := by kernel_rfl
theorem fact32 : Rows.scriptKnownRow.veiledFits Tryz.prog Tryz.f3.params.toList (Tryz.f3.params.toList ++ Rows.scriptKnownSpec.plain.varTypes Tryz.prog ++ Tryz.f3.resultTypes.toList) = true := by kernel_rfl
end Go.Proofs.YtejdijnbknpdbaaGreatDoor
