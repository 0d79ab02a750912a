/- BookConstants: Pi and Ln2, cut to any number of bits, are the document's, and told again they are the same, whatever was done to the first answer. (The statement as given; no condition of ours.) -/

import Derived.Test.YtlngoohfkaceoaaGreatDoorQBookConstantsG1
import Derived.Test.YtlngoohfkaceoaaGreatDoorQBookConstantsK2
import Derived.Test.YtlngoohfkaceoaaGreatDoorQBookConstantsLaw0
import Derived.Test.YtlngoohfkaceoaaGreatDoorRows
import Derived.Test.YtlngoohfkaceoaaGreatDoorCards
import Derived.Test.YtlngoohfkaceoaaGreatDoorTie
import Derived.SevenTiedAt
import Derived.Deep.DeepHandedRow
import Derived.Lib.LaidTab
import Derived.WalkKit
import Derived.ProofKit
import Derived.OpenShut
import Derived.ChangeOld
import Derived.Below
import Derived.SizedLaws
import Derived.LaidSub
set_option linter.unusedVariables false
set_option linter.unusedSimpArgs false
namespace Go.Proofs.YtlngoohfkaceoaaGreatDoor.bookConstants
open Go.ChangeShapes Go.WideShapes Go.ChangeAt Go.RowKit
theorem own : ownKnob Tryz.prog.godebug = none := by kernel_rfl
theorem laidOut : laidOutB Tryz.prog = true := by kernel_rfl
theorem int_inr {k : IntKind} {n : Int} (h : (Lit.int k n).wf = true) : Go.Proofs.YtlngoohfkaceoaaGreatDoor.Eng.inr k n := by
 intro hs
 cases k <;> first | (cases hs; done) | (simp [Lit.wf, IntKind.min, IntKind.max, IntKind.signed, IntKind.bits] at h; omega)
theorem int_range {k : IntKind} {n : Int} (h : (Lit.int k n).wf = true) : k.min ≤ n ∧ n ≤ k.max := by
 simpa [Lit.wf] using h
theorem gT0 : Tryz.prog.globalNamed "math/bits.deBruijn32tab" = some 0 := by kernel_rfl
theorem gTType0 : (Tryz.prog.globals[0]?).map (·.type) = some 132 := by kernel_rfl
theorem cellsE0 : Tryz.prog.cellsOf 5 = 1 := by kernel_rfl
theorem cellsT0 : Tryz.prog.cellsOf 132 = 32 := by kernel_rfl
def tabZ0 : List Int := [0, 1, 28, 2, 29, 14, 24, 3, 30, 22, 20, 15, 25, 17, 4, 8, 31, 27, 13, 23, 21, 19, 16, 7, 26, 12, 18, 6, 11, 5, 10, 9]
theorem tabZ0_at : ∀ j, j < 32 → tabZ0.getD j 0 = ((Lib.deBruijn32tab.getD j 0 : Nat) : Int) := by decide +kernel
noncomputable def laidWorld (os : Os) : World :=
 { World.holding Tryz.prog os ⟨#[], #[], []⟩ with heap := ((World.holding Tryz.prog os ⟨#[], #[], []⟩).heap.modify 0 (fun
   | .cells _ t frozen => .cells (tabZ0.map fun z => Value.int .u8 z).toArray t frozen
   | o => o)) }
theorem laidWorld_os (os : Os) : (laidWorld os).os = os := rfl
theorem laid_met (os : Os) (args : Array Value) : laidMet Tryz.prog Rows.bookConstantsRow.laid ((laidWorld os).forCall (fun _ _ => 0) ⟨#[], args, []⟩).memory :=
 laidMet_of_run' 8 (by kernel_rfl) (by kernel_rfl)
theorem witness_row (os : Os) {H : Type} (enc : TypeId × Value → H) :
  (OpenSpec.ofChange Rows.bookConstantsSpec).preRow enc Tryz.prog Tryz.f3 Rows.bookConstantsRow.domain false Rows.bookConstantsRow.laid ((laidWorld os).forCall (fun _ _ => 0) ⟨#[], #[.int .i64 0], []⟩).memory #[.int .i64 0] := by
 have hw : (DataW.whole enc Tryz.prog ((laidWorld os).forCall (fun _ _ => 0) ⟨#[], #[.int .i64 0], []⟩).memory Tryz.f3.params.toList (OpenSpec.ofChange Rows.bookConstantsSpec).vars false (#[.int .i64 0] : Array Value).toList 8).map (fun x => (x.1, x.2.1)) =
   some ([.lit (.int .i64 0)], []) := by kernel_rfl
 obtain ⟨⟨x1, x2, x3⟩, hx, hx1⟩ := Option.map_eq_some_iff.1 hw
 simp only [Prod.mk.injEq] at hx1
 obtain ⟨rfl, rfl⟩ := hx1
 exact OpenSpec.preRow_of_cond 8 hx (by kernel_rfl) (fun k hk => by cases hk) (by kernel_rfl) (laid_met os _)
set_option maxRecDepth 100000 in
theorem lifted (os : Os) (started : os.Started) (H : Type) (enc : TypeId × Value → H) (F : Stop.Interp) :
  ReturnsInHanded {} Tryz.checked os 3 .any ((OpenSpec.ofChange Rows.bookConstantsSpec).preRow enc Tryz.prog Tryz.f3 Rows.bookConstantsRow.domain false Rows.bookConstantsRow.laid) (((OpenSpec.ofChange Rows.bookConstantsSpec).at F).post enc Tryz.prog Tryz.f3 false true false false) := by
 refine returnsInHanded_of_row (C := Tryz.checked) (s := (OpenSpec.ofChange Rows.bookConstantsSpec)) own started (by kernel_rfl) Tryz.func3
  (witness_row_at (enc := enc) (C := Tryz.checked) false (laidWorld os) #[.int .i64 0] (laidWorld_os os) (by kernel_rfl) (by kernel_rfl) (by kernel_rfl) (witness_row os enc)) ?_
 intro W base args ds gs before hval0 hW _ _ hsz0 hL _ _
 have htab0 : Lib.TabIs Tryz.prog W "math/bits.deBruijn32tab" .u8 tabZ0 := Lib.tabIs_of_head (rest := []) gT0 gTType0 Tryz.underlying132 Tryz.underlying5 cellsE0 cellsT0 hL
 have hT : Go.Proofs.YtlngoohfkaceoaaGreatDoor.Eng.Ext Go.Proofs.YtlngoohfkaceoaaGreatDoor.Eng.zy (Go.Proofs.YtlngoohfkaceoaaGreatDoor.Eng.qb0 W) := by
  intro b o v hv
  unfold Go.Proofs.YtlngoohfkaceoaaGreatDoor.Eng.zy at hv
  split at hv
  ·rename_i hbo
   obtain ⟨rfl, ho⟩ := hbo
   obtain rfl := Option.some.inj hv
   show W.cell? _ = _
   rw [htab0.cell gT0 o ho, tabZ0_at o ho]
  ·cases hv
 have hval : ∀ (j : Nat) t v, Tryz.f3.params[j]? = some t → args[j]? = some v → Value.okWide Tryz.prog W .any base t v := hval0
 have hW' := hW
 obtain ⟨p, q, hA0, hV, rfl, hfz, hnd⟩ := hW
 have hA : DataW.TrodAll enc Tryz.prog W 0 (fun _ => true) true Tryz.f3.params.toList args.toList ds p := hA0
 rw [Tryz.params3] at hA hval
 obtain ⟨v0, vs0, d0, ds0, p0, q0, hargs, rfl, rfl, h0, r0⟩ := trodAll_cons hA
 obtain ⟨rfl, rfl, rfl⟩ := trodAll_nil r0
 obtain rfl : args = #[v0] := by cases args; simp_all
 obtain ⟨rfl, rfl⟩ := trodVars_none hV
 obtain ⟨a0, rfl, rfl, rfl, w0⟩ := open_int Tryz.underlying3 (hval 0 3 v0 rfl rfl) h0
 have r0 := int_range w0
 clear hA0 hval0 hsz0
 obtain ⟨k, hk⟩ := Go.Proofs.YtlngoohfkaceoaaGreatDoor.Eng.K.zfX a0
 have hk := hk k (Nat.le_refl k)
 refine (Go.Proofs.YtlngoohfkaceoaaGreatDoor.Eng.qiF (Go.Proofs.YtlngoohfkaceoaaGreatDoor.Eng.zD.ok k) hT (args := #[.int .i64 a0]) (ls := [.int .i64 a0]) (r := true) rfl ?_ hk rfl).mono fun e W' ⟨he, bel⟩ => ?_
 ·intro i v hv
  rcases i with _ | i
  ·obtain rfl := Option.some.inj hv
   exact ⟨rfl, int_inr w0⟩
  simp at hv
 subst he
 exact ⟨_, rfl, _, _, _, [], _, [], hW', trodAll_mk1 (shut_bool Tryz.underlying4 _), (trodAll_cons_mk (shut_int Tryz.underlying3 w0) trodAll_mk0), rfl, bel.frame _, fun h => by cases h⟩
theorem over : Rows.bookConstantsRow.holds Tryz.pinned (OpenSpec.ofChange Rows.bookConstantsSpec) :=
 OpenClaim.holds_of_cond 3 Tryz.f3 rfl rfl rfl rfl rfl rfl rfl ⟨rfl, rfl, rfl, rfl, rfl⟩ rfl rfl rfl rfl rfl (by kernel_rfl) Tryz.func3 closed (of_decide_eq_true inst) wrap
  (fun os started H enc _ F0 => by rw [OpenClaim.pre_eq_preRow]; exact lifted os started H enc F0)
theorem saidRow : Rows.BookConstantsSaid := over
theorem proved : Rows.BookConstantsCardSaid :=
 Claim7.holds_tied_plain_at .later [] [.data] true (true, "8742131c680fecdeea4c78fe1bc310c3e17b486433e7d5b66bb6af2022ab68af") false
  saidRow (fun _ h => by cases h) wfText (fun _ h => by cases h) bookConstants_row_tie rfl ⟨rfl, rfl⟩ mainOk rfl
  (fun f fn hf hfn => by
   obtain rfl : f = 3 := Option.some.inj (nameOk.symm.trans hf) |>.symm
   obtain rfl : fn = Tryz.f3 := (Option.some.inj (Tryz.func3.symm.trans hfn)).symm
   exact ⟨looksOk, wants⟩)
  goesOk
#print axioms proved
end Go.Proofs.YtlngoohfkaceoaaGreatDoor.bookConstants
namespace Go.Proofs.YtlngoohfkaceoaaGreatDoor
theorem bookConstants_holds : Rows.BookConstantsCardSaid := bookConstants.proved
end Go.Proofs.YtlngoohfkaceoaaGreatDoor
