
import Derived.Test.YtlngoohfkaceoaaDoorRows
import Derived.Test.YtlngoohfkaceoaaDoorCards
import Derived.Test.YtlngoohfkaceoaaDoorTie
import Derived.SevenTiedAt
import Derived.Deep.DeepHandedRow
import Derived.Lib.LaidTab
import Derived.WalkKit
import Derived.ProofKit
import Derived.OpenShut
import Derived.ChangeOld
import Derived.Below
import Derived.SizedLaws
import Derived.LaidSub
namespace Go.Proofs.YtlngoohfkaceoaaDoor.bookCuts
open Go.ChangeShapes Go.WideShapes Go.ChangeAt Go.RowKit
set_option linter.unusedVariables false
theorem closed : joinedFacts Tryd.pinned.checked.prog 3 Tryd.f3 (OpenSpec.ofChange Rows.bookCutsSpec).bare Rows.bookCutsRow = true := by kernel_rfl
theorem inst : decide (Tryd.f3.isInstance Tryd.pinned.checked.prog Rows.bookCutsRow.origin Rows.bookCutsRow.targs) = true := by kernel_rfl
theorem wrap : Tryd.f3.isWrapper Tryd.pinned.checked.prog Rows.bookCutsRow.wrapper Rows.bookCutsRow.mainSum := by
 unfold Func.isWrapper; first | (rw [if_pos (by decide +kernel)]; kernel_rfl) | (rw [if_neg (by decide +kernel)]; exact ⟨rfl, rfl⟩)
theorem wfText : Rows.bookCutsRow.wfByText (OpenSpec.ofChange Rows.bookCutsSpec) = true := by kernel_rfl
theorem mainOk : Tryd.pinned.checked.prog.mainIs = some ((true, "ffd30c9e7c58dbaefe0f47696a8672a67c8b0302b823b6b1769f5d1d34bf63d5").1, (true, "ffd30c9e7c58dbaefe0f47696a8672a67c8b0302b823b6b1769f5d1d34bf63d5").2.toList) := by kernel_rfl
theorem looksOk : false = Tryd.pinned.checked.prog.looks [] := by kernel_rfl
theorem goesOk : false = Rows.bookCutsRow.goesBy Tryd.pinned.checked.prog := by kernel_rfl
theorem nameOk : Tryd.prog.funcNamed Rows.bookCutsRow.func = some 3 := by kernel_rfl
theorem wants : ∀ (j : Nat) t, Tryd.f3.params[j]? = some t → Tryd.pinned.checked.prog.wantsStandIn t = false := fun j t ht => by
        rw [Tryd.params3] at ht
        have h3 : t = 3 := by
          rcases j with _ | _ | j
          · exact (Option.some.inj ht).symm
          · exact (Option.some.inj ht).symm
          · cases ht
        rcases h3 with rfl
        · exact (show Tryd.prog.wantsStandIn 3 = false by kernel_rfl)
end Go.Proofs.YtlngoohfkaceoaaDoor.bookCuts
