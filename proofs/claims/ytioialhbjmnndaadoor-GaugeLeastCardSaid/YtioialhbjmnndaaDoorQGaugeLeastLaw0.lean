
import Derived.Test.YtioialhbjmnndaaDoorRows
import Derived.Test.YtioialhbjmnndaaDoorCards
import Derived.Test.YtioialhbjmnndaaDoorTie
import Derived.SevenTiedAt
import Derived.Deep.DeepHandedRow
import Derived.Lib.LaidTab
import Derived.WalkKit
import Derived.ProofKit
import Derived.OpenShut
import Derived.ChangeOld
import Derived.Below
import Derived.SizedLaws
import Derived.LaidSub
import Derived.Carry
namespace Go.Proofs.YtioialhbjmnndaaDoor.gaugeLeast
open Go.ChangeShapes Go.WideShapes Go.ChangeAt Go.RowKit
set_option linter.unusedVariables false
theorem closed : joinedFacts Tryd.pinned.checked.prog 3 Tryd.f3 (OpenSpec.ofChange Rows.gaugeLeastSpec).bare Rows.gaugeLeastRow = true := by kernel_rfl
theorem inst : decide (Tryd.f3.isInstance Tryd.pinned.checked.prog Rows.gaugeLeastRow.origin Rows.gaugeLeastRow.targs) = true := by kernel_rfl
theorem wrap : Tryd.f3.isWrapper Tryd.pinned.checked.prog Rows.gaugeLeastRow.wrapper Rows.gaugeLeastRow.mainSum := by
 unfold Func.isWrapper; first | (rw [if_pos (by decide +kernel)]; kernel_rfl) | (rw [if_neg (by decide +kernel)]; exact ⟨rfl, rfl⟩)
theorem wfText : Rows.gaugeLeastRow.wfByText (OpenSpec.ofChange Rows.gaugeLeastSpec) = true := by kernel_rfl
theorem mainOk : Tryd.pinned.checked.prog.mainIs = some ((true, "76ce2da7022f7c58b2121eab0c492c3182e7cae3d3e6c008968147e2e37f2c0f").1, (true, "76ce2da7022f7c58b2121eab0c492c3182e7cae3d3e6c008968147e2e37f2c0f").2.toList) := by kernel_rfl
theorem looksOk : false = Tryd.pinned.checked.prog.looks [] := by kernel_rfl
theorem goesOk : false = Rows.gaugeLeastRow.goesBy Tryd.pinned.checked.prog := by kernel_rfl
theorem nameOk : Tryd.prog.funcNamed Rows.gaugeLeastRow.func = some 3 := by kernel_rfl
theorem wants : ∀ (j : Nat) t, Tryd.f3.params[j]? = some t → Tryd.pinned.checked.prog.wantsStandIn t = false := fun j t ht => by
        rw [Tryd.params3] at ht
        have h3 : t = 22 ∨ t = 25 ∨ t = 30 := by
          rcases j with _ | _ | _ | j
          · exact .inl ((Option.some.inj ht).symm)
          · exact .inr (.inl ((Option.some.inj ht).symm))
          · exact .inr (.inr ((Option.some.inj ht).symm))
          · cases ht
        rcases h3 with rfl | rfl | rfl
        · exact (show Tryd.prog.wantsStandIn 22 = false by kernel_rfl)
        · exact (show Tryd.prog.wantsStandIn 25 = false by kernel_rfl)
        · exact (show Tryd.prog.wantsStandIn 30 = false by kernel_rfl)
end Go.Proofs.YtioialhbjmnndaaDoor.gaugeLeast
