/- The law ScriptKnown of the package drawbridgelaw26 answers true, as its card says. No condition beyond the card's own. -/
import Derived.Test.YtejdijnbknpdbaaGreatDoorFa
import Derived.Test.YtejdijnbknpdbaaGreatDoorFb
import Derived.Test.YtejdijnbknpdbaaGreatDoorFc
import Derived.Test.YtejdijnbknpdbaaGreatDoorFd
import Derived.Test.YtejdijnbknpdbaaGreatDoorFe
namespace Go.Proofs.YtejdijnbknpdbaaGreatDoor
open Go Go.RowKit Go.Lib
set_option maxRecDepth 1000000
/-- No function starts another goroutine. -/
theorem none_goes : Tryz.prog.funcs.any Func.goes = false := by kernel_rfl
theorem goes_not (f : FuncId) : Tryz.prog.goes f = false := by
  unfold Program.goes
  rw [none_goes, Bool.and_false, Bool.or_false, List.any_eq_false]
  intro g _ h
  cases hg : Tryz.prog.funcs[g]? with
  | none => rw [hg] at h; cases h
  | some fn =>
    rw [hg] at h
    have := none_goes
    rw [Array.any_eq_false] at this
    obtain ⟨hlt, he⟩ := Array.getElem?_eq_some_iff.1 hg
    exact this g hlt (by rw [he]; exact h)
theorem goes_by (c : OpenClaim) (hst : c.start = .entering) : false = c.goesBy Tryz.prog := by
  unfold OpenClaim.goesBy Program.goesAt Program.goesFrom
  rw [hst]
  cases Tryz.prog.funcNamed c.func with
  | none => rfl
  | some f => simp [goes_not f]
theorem andT {a b : Bool} (ha : a = true) (hb : b = true) : (a && b) = true := by rw [ha, hb]; rfl
theorem row_facts : joinedFacts Tryz.pinned.checked.prog 3 Tryz.f3 Rows.scriptKnownSpec Rows.scriptKnownRow = true :=
  andT (andT (andT (andT (andT (andT (andT (andT (andT (andT (andT (andT (andT (andT (andT (andT (andT (andT (andT (andT (andT (andT (andT (andT (andT (andT (andT (andT (andT (andT (andT fact1 fact2) fact3) fact4) fact5) fact6) fact7) fact8) fact9) fact10) fact11) fact12) fact13) fact14) fact15) fact16) fact17) fact18) fact19) fact20) fact21) fact22) fact23) fact24) fact25) fact26) fact27) fact28) fact29) fact30) fact31) fact32
theorem row_holds : Rows.ScriptKnownSaid :=
  OpenClaim.holds_of_wide 3 Tryz.f3 rfl rfl rfl rfl rfl rfl rfl ⟨rfl, rfl, rfl, rfl, rfl⟩ rfl rfl rfl rfl rfl (by kernel_rfl) Tryz.func3 row_facts
    (of_decide_eq_true (by kernel_rfl)) (by unfold Func.isWrapper; rw [if_neg (of_decide_eq_false (by kernel_rfl))]; exact ⟨rfl, rfl⟩)
    (fun os started H enc _ => lifted os started H enc)
theorem scriptKnown_holds : Rows.ScriptKnownCardSaid :=
  Claim7.holds_tied_plain_at .later [] [.data, .data, .data, .data, .sentinel, .sentinel, .data, .pinned] true (true, "eebe8e7dd9291984ac4dbdbd0309df036bf846e771414b287b1838bf434328ab") true row_holds (fun _ h => by cases h) (by kernel_rfl) (fun _ h => by cases h) scriptKnown_row_tie rfl ⟨rfl, rfl⟩ (by kernel_rfl) rfl
    (fun f fn hf hfn => by
      obtain rfl : f = 3 := Option.some.inj ((show Tryz.prog.funcNamed "drawbridge/drawbridgelaw26.ScriptKnown" = some 3 by kernel_rfl).symm.trans hf) |>.symm
      obtain rfl : fn = Tryz.f3 := (Option.some.inj (Tryz.func3.symm.trans hfn)).symm
      exact ⟨by kernel_rfl, fun j t ht => by
        have ht' : (#[] : Array TypeId)[j]? = some t := ht
        simp at ht'⟩)
    (goes_by _ rfl)
#print axioms scriptKnown_holds
end Go.Proofs.YtejdijnbknpdbaaGreatDoor
