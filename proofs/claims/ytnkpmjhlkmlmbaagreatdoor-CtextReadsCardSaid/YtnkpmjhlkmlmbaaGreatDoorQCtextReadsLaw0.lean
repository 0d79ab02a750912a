
import Derived.Test.YtnkpmjhlkmlmbaaGreatDoorRows
import Derived.Test.YtnkpmjhlkmlmbaaGreatDoorCards
import Derived.Test.YtnkpmjhlkmlmbaaGreatDoorTie
import Derived.SevenTiedAt
import Derived.Deep.DeepHandedRow
import Derived.Lib.LaidTab
import Derived.WalkKit
import Derived.ProofKit
import Derived.OpenShut
import Derived.ChangeOld
import Derived.Below
import Derived.SizedLaws
import Derived.LaidSub
import Derived.ChangeMaps5
import Derived.Lay
namespace Go.Proofs.YtnkpmjhlkmlmbaaGreatDoor.ctextReads
open Go.ChangeShapes Go.WideShapes Go.ChangeAt Go.RowKit
set_option linter.unusedVariables false
theorem closed : joinedFacts Tryz.pinned.checked.prog 12 Tryz.f12 (OpenSpec.ofChange Rows.ctextReadsSpec).bare Rows.ctextReadsRow = true := by kernel_rfl
theorem inst : decide (Tryz.f12.isInstance Tryz.pinned.checked.prog Rows.ctextReadsRow.origin Rows.ctextReadsRow.targs) = true := by kernel_rfl
theorem wrap : Tryz.f12.isWrapper Tryz.pinned.checked.prog Rows.ctextReadsRow.wrapper Rows.ctextReadsRow.mainSum := by
 unfold Func.isWrapper; first | (rw [if_pos (by decide +kernel)]; kernel_rfl) | (rw [if_neg (by decide +kernel)]; exact ⟨rfl, rfl⟩)
theorem wfText : Rows.ctextReadsRow.wfByText (OpenSpec.ofChange Rows.ctextReadsSpec) = true := by kernel_rfl
theorem mainOk : Tryz.pinned.checked.prog.mainIs = some ((true, "57d011c10f139844d8cef4773dbd89071f0b1ebf04d4dbd79f3c1d77eb9c6c40").1, (true, "57d011c10f139844d8cef4773dbd89071f0b1ebf04d4dbd79f3c1d77eb9c6c40").2.toList) := by kernel_rfl
theorem looksOk : true = Tryz.pinned.checked.prog.looks [] := by kernel_rfl
theorem goesOk : false = Rows.ctextReadsRow.goesBy Tryz.pinned.checked.prog := by kernel_rfl
theorem nameOk : Tryz.prog.funcNamed Rows.ctextReadsRow.func = some 12 := by kernel_rfl
theorem wants : ∀ (j : Nat) t, Tryz.f12.params[j]? = some t → Tryz.pinned.checked.prog.wantsStandIn t = false := fun j t ht => by
        rw [Tryz.params12] at ht
        have h3 : t = 9 ∨ t = 22 ∨ t = 23 := by
          rcases j with _ | _ | _ | j
          · exact .inr (.inl ((Option.some.inj ht).symm))
          · exact .inr (.inr ((Option.some.inj ht).symm))
          · exact .inl ((Option.some.inj ht).symm)
          · cases ht
        rcases h3 with rfl | rfl | rfl
        · exact (show Tryz.prog.wantsStandIn 9 = false by kernel_rfl)
        · exact (show Tryz.prog.wantsStandIn 22 = false by kernel_rfl)
        · exact (show Tryz.prog.wantsStandIn 23 = false by kernel_rfl)
end Go.Proofs.YtnkpmjhlkmlmbaaGreatDoor.ctextReads
