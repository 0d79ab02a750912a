
import Derived.Test.YtnkpmjhlkmlmbaaGreatDoorRows
import Derived.Test.YtnkpmjhlkmlmbaaGreatDoorCards
import Derived.Test.YtnkpmjhlkmlmbaaGreatDoorTie
import Derived.SevenTiedAt
import Derived.Deep.DeepHandedRow
import Derived.Lib.LaidTab
import Derived.WalkKit
import Derived.ProofKit
import Derived.OpenShut
import Derived.ChangeOld
import Derived.Below
import Derived.SizedLaws
import Derived.LaidSub
import Derived.Lay
namespace Go.Proofs.YtnkpmjhlkmlmbaaGreatDoor.ctextBack
open Go.ChangeShapes Go.WideShapes Go.ChangeAt Go.RowKit
set_option linter.unusedVariables false
theorem closed : joinedFacts Tryz.pinned.checked.prog 13 Tryz.f13 (OpenSpec.ofChange Rows.ctextBackSpec).bare Rows.ctextBackRow = true := by kernel_rfl
theorem inst : decide (Tryz.f13.isInstance Tryz.pinned.checked.prog Rows.ctextBackRow.origin Rows.ctextBackRow.targs) = true := by kernel_rfl
theorem wrap : Tryz.f13.isWrapper Tryz.pinned.checked.prog Rows.ctextBackRow.wrapper Rows.ctextBackRow.mainSum := by
 unfold Func.isWrapper; first | (rw [if_pos (by decide +kernel)]; kernel_rfl) | (rw [if_neg (by decide +kernel)]; exact ⟨rfl, rfl⟩)
theorem wfText : Rows.ctextBackRow.wfByText (OpenSpec.ofChange Rows.ctextBackSpec) = true := by kernel_rfl
theorem mainOk : Tryz.pinned.checked.prog.mainIs = some ((true, "57d011c10f139844d8cef4773dbd89071f0b1ebf04d4dbd79f3c1d77eb9c6c40").1, (true, "57d011c10f139844d8cef4773dbd89071f0b1ebf04d4dbd79f3c1d77eb9c6c40").2.toList) := by kernel_rfl
theorem looksOk : true = Tryz.pinned.checked.prog.looks [] := by kernel_rfl
theorem goesOk : false = Rows.ctextBackRow.goesBy Tryz.pinned.checked.prog := by kernel_rfl
theorem nameOk : Tryz.prog.funcNamed Rows.ctextBackRow.func = some 13 := by kernel_rfl
theorem wants : ∀ (j : Nat) t, Tryz.f13.params[j]? = some t → Tryz.pinned.checked.prog.wantsStandIn t = false := fun j t ht => by
        rw [Tryz.params13] at ht
        have h3 : t = 22 ∨ t = 58 := by
          rcases j with _ | _ | _ | j
          · exact .inl ((Option.some.inj ht).symm)
          · exact .inr ((Option.some.inj ht).symm)
          · exact .inr ((Option.some.inj ht).symm)
          · cases ht
        rcases h3 with rfl | rfl
        · exact (show Tryz.prog.wantsStandIn 22 = false by kernel_rfl)
        · exact (show Tryz.prog.wantsStandIn 58 = false by kernel_rfl)
end Go.Proofs.YtnkpmjhlkmlmbaaGreatDoor.ctextBack
