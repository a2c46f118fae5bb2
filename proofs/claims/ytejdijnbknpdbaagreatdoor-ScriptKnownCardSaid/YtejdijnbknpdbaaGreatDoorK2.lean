/- The call of ScriptKnown returns true in every world that lays the listed variables. No condition beyond the card's own. -/
import Derived.Test.YtejdijnbknpdbaaGreatDoorK1
import Derived.Test.YtejdijnbknpdbaaGreatDoorTie
import Derived.Test.YtejdijnbknpdbaaGreatDoorCards
import Derived.ProofKit
import Derived.Lib.LaidU8
import Derived.Lay
namespace Go.Proofs.YtejdijnbknpdbaaGreatDoor
open Go Go.RowKit Go.Lib Go.ChangeShapes Go.WideShapes Go.ChangeAt Go.V
set_option maxRecDepth 1000000
theorem run_some {r : Option (A × S)} (h : Sk.isT r = true) : ∃ s', r = some (.b true, s') := by
  unfold Sk.isT at h
  split at h
  · exact ⟨_, rfl⟩
  · cases h
/-- The call, in a world that lays the table of powers. -/
theorem law (W : World) {vs : Array Value} {T : TypeId} {f : Nat × Nat} (hv : W.heap[2]? = some (.cells vs T f)) (hc : vs.toList = Sk.tab.map fun z => Value.int .u64 z) :
    Calls Tryz.prog 3 #[] W fun e W' => e = .returned (.bool true) ∧ Below W.heap.size W W' := by
  obtain ⟨s', hs⟩ := run_some (Sk.known T)
  have hR := one1_rel (k := .u64) hv hc
  have hG : GLok Sk.glS (upd (fun _ => ⟨0, 0, 0⟩) 0 ⟨2, 0, 0⟩) 1 := ⟨fun g l h => by
    unfold Sk.glS at h
    split at h
    · cases h; exact ⟨Nat.lt_succ_self _, by rw [upd_self], by rw [upd_self]⟩
    · cases h⟩
  have hcall := evF_ok Sk.mixed Sk.tblOK Sk.nopOK 40 3 [] _ _ _ _ W hs hR hG trivial
  refine (CallW.calls hcall Tryz.func3 (by kernel_rfl) (by kernel_rfl)).mono fun e W' ⟨v, he, φ', hst, _, hr⟩ => ?_
  subst he; subst hr
  exact ⟨rfl, hst.2.below (one1_all _ _ _)⟩
theorem own : ownKnob Tryz.prog.godebug = none := by kernel_rfl
theorem gn : Tryz.prog.globalNamed "internal/strconv.uint64pow10" = some 2 := by kernel_rfl
theorem gt : (Tryz.prog.globals[2]?).map (·.type) = some 378 := by kernel_rfl
theorem u378 : Tryz.prog.underlying 378 = some (.array 20 300) := by kernel_rfl
theorem u300 : Tryz.prog.underlying 300 = some (.int .u64) := by kernel_rfl
theorem c300 : Tryz.prog.cellsOf 300 = 1 := by kernel_rfl
theorem c378 : Tryz.prog.cellsOf 378 = 20 := by kernel_rfl
theorem u4 : Tryz.prog.underlying 4 = some .bool := by kernel_rfl
theorem tab_eq : (Rows.laid_internal_strconv_uint64pow10 : DataW Unit) = tabData .u64 Sk.tab := by kernel_rfl
/-- What the condition gives the walk. -/
theorem table_of_laid {W : World} (h : laidMetH Tryz.prog Rows.scriptKnownRow.laid W) : ∃ vs T f, W.heap[2]? = some (.cells vs T f) ∧ vs.toList = Sk.tab.map fun z => Value.int .u64 z := by
  rw [MakeChecks.laidMetH_plain _ _ _ (by kernel_rfl)] at h
  have hm : ("internal/strconv.uint64pow10", (Rows.laid_internal_strconv_uint64pow10 : DataW Unit)) ∈ Rows.scriptKnownRow.laid := .tail _ (.tail _ (.head _))
  obtain ⟨g, t, cs, fuel, p, hg, hty, hvar, hd⟩ := laidMet.reads h hm
  obtain rfl := Option.some.inj (gn.symm.trans hg)
  obtain rfl := Option.some.inj (gt.symm.trans hty)
  rw [tab_eq] at hd
  have hcs := cells_of_tab u378 u300 c300 c378 hd
  unfold World.var? at hvar
  rw [gn] at hvar
  simp only [Option.bind_some] at hvar
  split at hvar
  · rename_i c T f hh
    cases hvar
    exact ⟨_, T, f, hh, hcs⟩
  · cases hvar
theorem lifted (os : Os) (started : os.Started) (H : Type) (enc : TypeId × Value → H) :
    ReturnsInHanded {} Tryz.checked os 3 .any (fun w args => (Rows.scriptKnownSpec.pre enc Tryz.prog Tryz.f3 [] false w args ∧ laidMetH Tryz.prog Rows.scriptKnownRow.laid w) ∧ sizedMet enc Tryz.prog Tryz.f3 (OpenSpec.ofChange Rows.scriptKnownSpec) false w args)
      (Rows.scriptKnownSpec.post enc Tryz.prog Tryz.f3 false true false false) := by
  refine returnsInHanded_of_change_and (C := Tryz.checked) (X := fun w _ => laidMetH Tryz.prog Rows.scriptKnownRow.laid w) (fun _ _ _ hh h => h.of_heap hh) own started (by kernel_rfl) Tryz.func3
    (ChangeSpec.witness_shaped (enc := enc) (C := Tryz.checked) (os := os) (X := fun w _ => laidMetH Tryz.prog Rows.scriptKnownRow.laid w) false (World.laidAll Tryz.prog os Rows.scriptKnownRow.laid) #[] 8 (World.laidAll_os _ _ _)
      (World.shaped_of_ZipB (by kernel_rfl) (by kernel_rfl)) (by kernel_rfl) (by kernel_rfl) (by kernel_rfl)
      (by rw [MakeChecks.laidMetH_plain _ _ _ (by kernel_rfl)]; exact laidMet_laidAll _ (by kernel_rfl) (by kernel_rfl))) ?_
  intro W base args ds gs before hval0 hW _ _ hL _
  have hW' := hW
  obtain ⟨p, q, hA0, hV, rfl, _, _⟩ := hW
  have hA : DataW.TrodAll enc Tryz.prog W 0 (fun _ => true) true [] args.toList ds p := hA0
  obtain ⟨rfl, rfl, rfl⟩ := trodAll_none hA
  obtain ⟨rfl, rfl⟩ := trodVars_none hV
  obtain ⟨vs, T, f, hh, hc⟩ := table_of_laid hL
  refine (law W hh hc).mono fun e W' ⟨he, hb⟩ => ?_
  subst he
  exact ⟨_, rfl, _, _, _, [], [], [], hW', trodAll_mk1 (shut_bool u4 true), trodAll_mk0, rfl, hb.frame _, fun h => by cases h⟩
#print axioms lifted
end Go.Proofs.YtejdijnbknpdbaaGreatDoor
