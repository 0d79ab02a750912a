
import Derived.Test.YtioialhbjmnndaaGreatDoorRows
import Derived.Test.YtioialhbjmnndaaGreatDoorCards
import Derived.Test.YtioialhbjmnndaaGreatDoorTie
import Derived.SevenTiedAt
import Derived.Deep.DeepHandedRow
import Derived.Lib.LaidTab
import Derived.WalkKit
import Derived.ProofKit
import Derived.OpenShut
import Derived.ChangeOld
import Derived.Below
import Derived.SizedLaws
import Derived.LaidSub
namespace Go.Proofs.YtioialhbjmnndaaGreatDoor.gaugeExact
open Go.ChangeShapes Go.WideShapes Go.ChangeAt Go.RowKit
set_option linter.unusedVariables false
theorem closed : joinedFacts Tryz.pinned.checked.prog 6 Tryz.f6 (OpenSpec.ofChange Rows.gaugeExactSpec).bare Rows.gaugeExactRow = true := by kernel_rfl
theorem inst : decide (Tryz.f6.isInstance Tryz.pinned.checked.prog Rows.gaugeExactRow.origin Rows.gaugeExactRow.targs) = true := by kernel_rfl
theorem wrap : Tryz.f6.isWrapper Tryz.pinned.checked.prog Rows.gaugeExactRow.wrapper Rows.gaugeExactRow.mainSum := by
 unfold Func.isWrapper; first | (rw [if_pos (by decide +kernel)]; kernel_rfl) | (rw [if_neg (by decide +kernel)]; exact ⟨rfl, rfl⟩)
theorem wfText : Rows.gaugeExactRow.wfByText (OpenSpec.ofChange Rows.gaugeExactSpec) = true := by kernel_rfl
theorem mainOk : Tryz.pinned.checked.prog.mainIs = some ((true, "c4d75ffc4d1b11c68445c77a1dce6f412de4a7e6d6a1d85268c8f85e3d8f816b").1, (true, "c4d75ffc4d1b11c68445c77a1dce6f412de4a7e6d6a1d85268c8f85e3d8f816b").2.toList) := by kernel_rfl
theorem looksOk : false = Tryz.pinned.checked.prog.looks [] := by kernel_rfl
theorem goesOk : false = Rows.gaugeExactRow.goesBy Tryz.pinned.checked.prog := by kernel_rfl
theorem nameOk : Tryz.prog.funcNamed Rows.gaugeExactRow.func = some 6 := by kernel_rfl
theorem wants : ∀ (j : Nat) t, Tryz.f6.params[j]? = some t → Tryz.pinned.checked.prog.wantsStandIn t = false := fun j t ht => by
        rw [Tryz.params6] at ht
        have h3 : t = 4 ∨ t = 22 ∨ t = 25 := by
          rcases j with _ | _ | _ | _ | j
          · exact .inr (.inl ((Option.some.inj ht).symm))
          · exact .inr (.inr ((Option.some.inj ht).symm))
          · exact .inr (.inr ((Option.some.inj ht).symm))
          · exact .inl ((Option.some.inj ht).symm)
          · cases ht
        rcases h3 with rfl | rfl | rfl
        · exact (show Tryz.prog.wantsStandIn 4 = false by kernel_rfl)
        · exact (show Tryz.prog.wantsStandIn 22 = false by kernel_rfl)
        · exact (show Tryz.prog.wantsStandIn 25 = false by kernel_rfl)
end Go.Proofs.YtioialhbjmnndaaGreatDoor.gaugeExact
