
import Derived.Test.YtlngoohfkaceoaaGreatDoorRows
import Derived.Test.YtlngoohfkaceoaaGreatDoorCards
import Derived.Test.YtlngoohfkaceoaaGreatDoorTie
import Derived.SevenTiedAt
import Derived.Deep.DeepHandedRow
import Derived.Lib.LaidTab
import Derived.WalkKit
import Derived.ProofKit
import Derived.OpenShut
import Derived.ChangeOld
import Derived.Below
import Derived.SizedLaws
import Derived.LaidSub
namespace Go.Proofs.YtlngoohfkaceoaaGreatDoor.bookMachin
open Go.ChangeShapes Go.WideShapes Go.ChangeAt Go.RowKit
set_option linter.unusedVariables false
theorem closed : joinedFacts Tryz.pinned.checked.prog 5 Tryz.f5 (OpenSpec.ofChange Rows.bookMachinSpec).bare Rows.bookMachinRow = true := by kernel_rfl
theorem inst : decide (Tryz.f5.isInstance Tryz.pinned.checked.prog Rows.bookMachinRow.origin Rows.bookMachinRow.targs) = true := by kernel_rfl
theorem wrap : Tryz.f5.isWrapper Tryz.pinned.checked.prog Rows.bookMachinRow.wrapper Rows.bookMachinRow.mainSum := by
 unfold Func.isWrapper; first | (rw [if_pos (by decide +kernel)]; kernel_rfl) | (rw [if_neg (by decide +kernel)]; exact ⟨rfl, rfl⟩)
theorem wfText : Rows.bookMachinRow.wfByText (OpenSpec.ofChange Rows.bookMachinSpec) = true := by kernel_rfl
theorem mainOk : Tryz.pinned.checked.prog.mainIs = some ((true, "8742131c680fecdeea4c78fe1bc310c3e17b486433e7d5b66bb6af2022ab68af").1, (true, "8742131c680fecdeea4c78fe1bc310c3e17b486433e7d5b66bb6af2022ab68af").2.toList) := by kernel_rfl
theorem looksOk : false = Tryz.pinned.checked.prog.looks [] := by kernel_rfl
theorem goesOk : false = Rows.bookMachinRow.goesBy Tryz.pinned.checked.prog := by kernel_rfl
theorem nameOk : Tryz.prog.funcNamed Rows.bookMachinRow.func = some 5 := by kernel_rfl
theorem wants : ∀ (j : Nat) t, Tryz.f5.params[j]? = some t → Tryz.pinned.checked.prog.wantsStandIn t = false := fun j t ht => by
        rw [Tryz.params5] at ht
        have h3 : t = 3 := by
          rcases j with _ | _ | j
          · exact (Option.some.inj ht).symm
          · exact (Option.some.inj ht).symm
          · cases ht
        rcases h3 with rfl
        · exact (show Tryz.prog.wantsStandIn 3 = false by kernel_rfl)
end Go.Proofs.YtlngoohfkaceoaaGreatDoor.bookMachin
