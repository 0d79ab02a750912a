
import Derived.Test.YtlngoohfkaceoaaGreatDoorRows
import Derived.Test.YtlngoohfkaceoaaGreatDoorCards
import Derived.Test.YtlngoohfkaceoaaGreatDoorTie
import Derived.SevenTiedAt
import Derived.Deep.DeepHandedRow
import Derived.Lib.LaidTab
import Derived.WalkKit
import Derived.ProofKit
import Derived.OpenShut
import Derived.ChangeOld
import Derived.Below
import Derived.SizedLaws
import Derived.LaidSub
namespace Go.Proofs.YtlngoohfkaceoaaGreatDoor.bookMercator
open Go.ChangeShapes Go.WideShapes Go.ChangeAt Go.RowKit
set_option linter.unusedVariables false
theorem closed : joinedFacts Tryz.pinned.checked.prog 4 Tryz.f4 (OpenSpec.ofChange Rows.bookMercatorSpec).bare Rows.bookMercatorRow = true := by kernel_rfl
theorem inst : decide (Tryz.f4.isInstance Tryz.pinned.checked.prog Rows.bookMercatorRow.origin Rows.bookMercatorRow.targs) = true := by kernel_rfl
theorem wrap : Tryz.f4.isWrapper Tryz.pinned.checked.prog Rows.bookMercatorRow.wrapper Rows.bookMercatorRow.mainSum := by
 unfold Func.isWrapper; first | (rw [if_pos (by decide +kernel)]; kernel_rfl) | (rw [if_neg (by decide +kernel)]; exact ⟨rfl, rfl⟩)
theorem wfText : Rows.bookMercatorRow.wfByText (OpenSpec.ofChange Rows.bookMercatorSpec) = true := by kernel_rfl
theorem mainOk : Tryz.pinned.checked.prog.mainIs = some ((true, "8742131c680fecdeea4c78fe1bc310c3e17b486433e7d5b66bb6af2022ab68af").1, (true, "8742131c680fecdeea4c78fe1bc310c3e17b486433e7d5b66bb6af2022ab68af").2.toList) := by kernel_rfl
theorem looksOk : false = Tryz.pinned.checked.prog.looks [] := by kernel_rfl
theorem goesOk : false = Rows.bookMercatorRow.goesBy Tryz.pinned.checked.prog := by kernel_rfl
theorem nameOk : Tryz.prog.funcNamed Rows.bookMercatorRow.func = some 4 := by kernel_rfl
theorem wants : ∀ (j : Nat) t, Tryz.f4.params[j]? = some t → Tryz.pinned.checked.prog.wantsStandIn t = false := fun j t ht => by
        rw [Tryz.params4] at ht
        have h3 : t = 3 := by
          rcases j with _ | _ | j
          · exact (Option.some.inj ht).symm
          · exact (Option.some.inj ht).symm
          · cases ht
        rcases h3 with rfl
        · exact (show Tryz.prog.wantsStandIn 3 = false by kernel_rfl)
end Go.Proofs.YtlngoohfkaceoaaGreatDoor.bookMercator
