
import Derived.Test.YtlngoohfkaceoaaGreatDoorRows
import Derived.Test.YtlngoohfkaceoaaGreatDoorCards
import Derived.Test.YtlngoohfkaceoaaGreatDoorTie
import Derived.SevenTiedAt
import Derived.Deep.DeepHandedRow
import Derived.Lib.LaidTab
import Derived.WalkKit
import Derived.ProofKit
import Derived.OpenShut
import Derived.ChangeOld
import Derived.Below
import Derived.SizedLaws
import Derived.LaidSub
namespace Go.Proofs.YtlngoohfkaceoaaGreatDoor.bookConstants
open Go.ChangeShapes Go.WideShapes Go.ChangeAt Go.RowKit
set_option linter.unusedVariables false
theorem closed : joinedFacts Tryz.pinned.checked.prog 3 Tryz.f3 (OpenSpec.ofChange Rows.bookConstantsSpec).bare Rows.bookConstantsRow = true := by kernel_rfl
theorem inst : decide (Tryz.f3.isInstance Tryz.pinned.checked.prog Rows.bookConstantsRow.origin Rows.bookConstantsRow.targs) = true := by kernel_rfl
theorem wrap : Tryz.f3.isWrapper Tryz.pinned.checked.prog Rows.bookConstantsRow.wrapper Rows.bookConstantsRow.mainSum := by
 unfold Func.isWrapper; first | (rw [if_pos (by decide +kernel)]; kernel_rfl) | (rw [if_neg (by decide +kernel)]; exact ⟨rfl, rfl⟩)
theorem wfText : Rows.bookConstantsRow.wfByText (OpenSpec.ofChange Rows.bookConstantsSpec) = true := by kernel_rfl
theorem mainOk : Tryz.pinned.checked.prog.mainIs = some ((true, "8742131c680fecdeea4c78fe1bc310c3e17b486433e7d5b66bb6af2022ab68af").1, (true, "8742131c680fecdeea4c78fe1bc310c3e17b486433e7d5b66bb6af2022ab68af").2.toList) := by kernel_rfl
theorem looksOk : false = Tryz.pinned.checked.prog.looks [] := by kernel_rfl
theorem goesOk : false = Rows.bookConstantsRow.goesBy Tryz.pinned.checked.prog := by kernel_rfl
theorem nameOk : Tryz.prog.funcNamed Rows.bookConstantsRow.func = some 3 := by kernel_rfl
theorem wants : ∀ (j : Nat) t, Tryz.f3.params[j]? = some t → Tryz.pinned.checked.prog.wantsStandIn t = false := fun j t ht => by
        rw [Tryz.params3] at ht
        have h3 : t = 3 := by
          rcases j with _ | j
          · exact (Option.some.inj ht).symm
          · cases ht
        rcases h3 with rfl
        · exact (show Tryz.prog.wantsStandIn 3 = false by kernel_rfl)
end Go.Proofs.YtlngoohfkaceoaaGreatDoor.bookConstants
