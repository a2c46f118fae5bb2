/- The evaluator runs ScriptKnown: it answers true. No condition. -/
import Derived.Test.YtejdijnbknpdbaaGreatDoorEc
import Derived.Test.YtejdijnbknpdbaaGreatDoorProg
namespace Go.V.Sk
open Go Go.Proofs
set_option maxRecDepth 1000000
noncomputable def tbl : List (FuncId × Bi) := [(151, xCount), (237, xIndexByte), (236, xIndexByte), (155, xFrombits), (50, xSame), (162, xNoZero 5), (226, xClone)]
def glS : GlF := fun g => match g with | 2 => some 0 | _ => none
def tab : List Int := [1, 10, 100, 1000, 10000, 100000, 1000000, 10000000, 100000000, 1000000000, 10000000000, 100000000000, 1000000000000, 10000000000000, 100000000000000, 1000000000000000, 10000000000000000, 100000000000000000, 1000000000000000000, 10000000000000000000]
noncomputable def s0 (T : TypeId) : S := one1 T .u64 tab
noncomputable def run (T : TypeId) (f : FuncId) (xs : List A) : Option (A × S) := evF Tryz.prog glS (lk tbl) (fun _ => false) 40 f xs (s0 T)
def isT : Option (A × S) → Bool | some (.b true, _) => true | _ => false
theorem known (T : TypeId) : isT (run T 3 []) = true := by kernel_rfl
theorem mixed : Tryz.prog.follows .mixedOrders = true := by kernel_rfl
theorem under31 : Tryz.prog.underlying 31 = some (.slice 5) := by kernel_rfl
theorem b151 : BOK Tryz.prog glS 151 xCount := BOK.ext xCount_ok Tryz.func151 (by kernel_rfl) (by kernel_rfl) (by kernel_rfl) (by kernel_rfl)
theorem b237 : BOK Tryz.prog glS 237 xIndexByte := BOK.ext xIndexByte_ok Tryz.func237 (by kernel_rfl) (by kernel_rfl) (by kernel_rfl) (by kernel_rfl)
theorem b236 : BOK Tryz.prog glS 236 xIndexByte := BOK.ext xIndexByte_ok Tryz.func236 (by kernel_rfl) (by kernel_rfl) (by kernel_rfl) (by kernel_rfl)
theorem b155 : BOK Tryz.prog glS 155 xFrombits := BOK.ext xFrombits_ok Tryz.func155 (by kernel_rfl) (by kernel_rfl) (by kernel_rfl) (by kernel_rfl)
theorem b50 : BOK Tryz.prog glS 50 xSame := BOK.ext xSame_ok Tryz.func50 (by kernel_rfl) (by kernel_rfl) (by kernel_rfl) (by kernel_rfl)
theorem b162 : BOK Tryz.prog glS 162 (xNoZero 5) := BOK.ext (xNoZero_ok #[3] under31) Tryz.func162 (by kernel_rfl) (by kernel_rfl) (by kernel_rfl) (by kernel_rfl)
theorem b226 : BOK Tryz.prog glS 226 xClone := BOK.ext xClone_ok Tryz.func226 (by kernel_rfl) (by kernel_rfl) (by kernel_rfl) (by kernel_rfl)
theorem tblOK : CallOK Tryz.prog glS fun f xs s => match lk tbl f with | some b => b xs s | none => none := lk_ok fun x hx => by
  simp only [tbl, List.mem_cons, List.mem_nil_iff, or_false] at hx
  rcases hx with rfl | rfl | rfl | rfl | rfl | rfl | rfl
  · exact b151
  · exact b237
  · exact b236
  · exact b155
  · exact b50
  · exact b162
  · exact b226
theorem nopOK : NopOK Tryz.prog fun _ => false := fun _ _ _ h => by cases h
end Go.V.Sk
