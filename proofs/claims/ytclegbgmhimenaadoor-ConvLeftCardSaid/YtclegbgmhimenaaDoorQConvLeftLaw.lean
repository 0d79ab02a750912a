/- ConvLeft: a remainder is at most half as great as the divisor, and the dividend less it is a whole multiple of the divisor, an even one where it is just half (finite words, a divisor that is no nought). (The statement as given; no condition of ours.) -/
import Derived.Test.YtclegbgmhimenaaDoorQConvLeftG1
import Derived.Test.YtclegbgmhimenaaDoorQConvLeftK2
import Derived.Test.YtclegbgmhimenaaDoorRows
import Derived.Test.YtclegbgmhimenaaDoorCards
import Derived.Test.YtclegbgmhimenaaDoorTie
import Derived.SevenTiedAt
import Derived.Deep.DeepHandedRow
import Derived.Lib.LaidTab
import Derived.WalkKit
import Derived.ProofKit
import Derived.OpenShut
import Derived.ChangeOld
import Derived.Below
import Derived.SizedLaws
set_option linter.unusedVariables false
set_option linter.unusedSimpArgs false
namespace Go.Proofs.YtclegbgmhimenaaDoor.convLeft
open Go.ChangeShapes Go.WideShapes Go.ChangeAt Go.RowKit
set_option linter.unusedVariables false
theorem own : ownKnob Tryd.prog.godebug = none := by kernel_rfl
theorem laidOut : laidOutB Tryd.prog = true := by kernel_rfl
theorem int_inr {k : IntKind} {n : Int} (h : (Lit.int k n).wf = true) : Go.Proofs.YtclegbgmhimenaaDoor.Eng.inr k n := by
  intro hs
  cases k <;> first | (cases hs; done) | (simp [Lit.wf, IntKind.min, IntKind.max, IntKind.signed, IntKind.bits] at h; omega)
theorem int_range {k : IntKind} {n : Int} (h : (Lit.int k n).wf = true) : k.min ≤ n ∧ n ≤ k.max := by
  simpa [Lit.wf] using h
theorem gT : Tryd.prog.globalNamed "math/bits.deBruijn32tab" = some 0 := by kernel_rfl
theorem gTType : (Tryd.prog.globals[0]?).map (·.type) = some 149 := by kernel_rfl
theorem cellsE : Tryd.prog.cellsOf 5 = 1 := by kernel_rfl
theorem cellsT : Tryd.prog.cellsOf 149 = 32 := by kernel_rfl
def tabZ : List Int := [0, 1, 28, 2, 29, 14, 24, 3, 30, 22, 20, 15, 25, 17, 4, 8, 31, 27, 13, 23, 21, 19, 16, 7, 26, 12, 18, 6, 11, 5, 10, 9]
theorem tabZ_at : ∀ j, j < 32 → tabZ.getD j 0 = ((Lib.deBruijn32tab.getD j 0 : Nat) : Int) := by decide
/-- The settled world, the table as its initialiser lays it: the witness. -/
noncomputable def laidWorld (os : Os) : World :=
  { World.holding Tryd.prog os ⟨#[], #[], []⟩ with heap := (World.holding Tryd.prog os ⟨#[], #[], []⟩).heap.modify 0 fun
      | .cells _ t frozen => .cells (tabZ.map fun z => Value.int .u8 z).toArray t frozen
      | o => o }
theorem laid_met (os : Os) (args : Array Value) : laidMet Tryd.prog Rows.convLeftRow.laid ((laidWorld os).forCall (fun _ _ => 0) ⟨#[], args, []⟩).memory :=
  laidMet_of_run' 8 (by kernel_rfl) (by kernel_rfl)
theorem witness_row (os : Os) {H : Type} (enc : TypeId × Value → H) :
    (OpenSpec.ofChange Rows.convLeftSpec).preRow enc Tryd.prog Tryd.f4 Rows.convLeftRow.domain false Rows.convLeftRow.laid ((laidWorld os).forCall (fun _ _ => 0) ⟨#[], #[.int .u8 0, .int .u64 0, .int .u64 0], []⟩).memory #[.int .u8 0, .int .u64 0, .int .u64 0] := by
  have hw : (DataW.whole enc Tryd.prog ((laidWorld os).forCall (fun _ _ => 0) ⟨#[], #[.int .u8 0, .int .u64 0, .int .u64 0], []⟩).memory Tryd.f4.params.toList (OpenSpec.ofChange Rows.convLeftSpec).vars false (#[.int .u8 0, .int .u64 0, .int .u64 0] : Array Value).toList 8).map (fun x => (x.1, x.2.1)) =
      some ([.lit (.int .u8 0), .lit (.int .u64 0), .lit (.int .u64 0)], []) := by kernel_rfl
  obtain ⟨⟨x1, x2, x3⟩, hx, hx1⟩ := Option.map_eq_some_iff.1 hw
  simp only [Prod.mk.injEq] at hx1
  obtain ⟨rfl, rfl⟩ := hx1
  exact OpenSpec.preRow_of_cond 8 hx (by kernel_rfl) (fun k hk => by cases hk) (by kernel_rfl) (laid_met os _)
set_option maxRecDepth 100000 in
theorem lifted (os : Os) (started : os.Started) (H : Type) (enc : TypeId × Value → H) (F : Stop.Interp) :
    ReturnsInHanded {} Tryd.checked os 4 .any ((OpenSpec.ofChange Rows.convLeftSpec).preRow enc Tryd.prog Tryd.f4 Rows.convLeftRow.domain false Rows.convLeftRow.laid) (((OpenSpec.ofChange Rows.convLeftSpec).at F).post enc Tryd.prog Tryd.f4 false true false false) := by
  refine returnsInHanded_of_row (C := Tryd.checked) (s := (OpenSpec.ofChange Rows.convLeftSpec)) own started (by kernel_rfl) Tryd.func4
    (witness_row_at (enc := enc) (C := Tryd.checked) false (laidWorld os) #[.int .u8 0, .int .u64 0, .int .u64 0] rfl (by kernel_rfl) (by kernel_rfl) (by kernel_rfl) (witness_row os enc)) ?_
  intro W base args ds gs before hval0 hW _ _ hsz0 hL _ _
  have htab : Lib.TabIs Tryd.prog W "math/bits.deBruijn32tab" .u8 tabZ := Lib.tabIs_of_head (rest := []) gT gTType Tryd.underlying149 Tryd.underlying5 cellsE cellsT hL
  have hT : Go.Proofs.YtclegbgmhimenaaDoor.Eng.Ext Go.Proofs.YtclegbgmhimenaaDoor.Eng.tabM (Go.Proofs.YtclegbgmhimenaaDoor.Eng.memOf W) := by
    intro b o v hv
    unfold Go.Proofs.YtclegbgmhimenaaDoor.Eng.tabM at hv
    split at hv
    · rename_i hbo
      obtain ⟨rfl, ho⟩ := hbo
      obtain rfl := Option.some.inj hv
      show W.cell? _ = _
      rw [htab.cell gT o ho, tabZ_at o ho]
    · cases hv
  have hval : ∀ (j : Nat) t v, Tryd.f4.params[j]? = some t → args[j]? = some v → Value.okWide Tryd.prog W .any base t v := hval0
  have hW' := hW
  obtain ⟨p, q, hA0, hV, rfl, hfz, hnd⟩ := hW
  have hA : DataW.TrodAll enc Tryd.prog W 0 (fun _ => true) true Tryd.f4.params.toList args.toList ds p := hA0
  rw [Tryd.params4] at hA hval
  obtain ⟨v0, vs0, d0, ds0, p0, q0, hargs, rfl, rfl, h0, r0⟩ := trodAll_cons hA
  obtain ⟨v1, vs1, d1, ds1, p1, q1, rfl, rfl, rfl, h1, r1⟩ := trodAll_cons r0
  obtain ⟨v2, vs2, d2, ds2, p2, q2, rfl, rfl, rfl, h2, r2⟩ := trodAll_cons r1
  obtain ⟨rfl, rfl, rfl⟩ := trodAll_nil r2
  obtain rfl : args = #[v0, v1, v2] := by cases args; simp_all
  obtain ⟨rfl, rfl⟩ := trodVars_none hV
  obtain ⟨a0, rfl, rfl, rfl, w0⟩ := open_int Tryd.underlying26 (hval 0 26 v0 rfl rfl) h0
  obtain ⟨a1, rfl, rfl, rfl, w1⟩ := open_int Tryd.underlying23 (hval 1 23 v1 rfl rfl) h1
  obtain ⟨a2, rfl, rfl, rfl, w2⟩ := open_int Tryd.underlying23 (hval 2 23 v2 rfl rfl) h2
  clear hA0 hval0 hsz0
  have r0 := int_range w0
  have r1 := int_range w1
  have r2 := int_range w2
  obtain ⟨k, hk⟩ := Go.Proofs.YtclegbgmhimenaaDoor.Eng.K.ConvLeft a0 a1 a2 r1 r2
  have hk := hk k (Nat.le_refl k)
  refine (Go.Proofs.YtclegbgmhimenaaDoor.Eng.law_run (Go.Proofs.YtclegbgmhimenaaDoor.Eng.cutplanelaw06_ConvLeft.ok k) hT (args := #[.int .u8 a0, .int .u64 a1, .int .u64 a2]) (ls := [.int .u8 a0, .int .u64 a1, .int .u64 a2]) (r := true) rfl ?_ hk rfl).mono fun e W' ⟨he, bel⟩ => ?_
  · intro i v hv
    rcases i with _ | i
    · obtain rfl := Option.some.inj hv
      exact ⟨rfl, int_inr w0⟩
    rcases i with _ | i
    · obtain rfl := Option.some.inj hv
      exact ⟨rfl, int_inr w1⟩
    rcases i with _ | i
    · obtain rfl := Option.some.inj hv
      exact ⟨rfl, int_inr w2⟩
    simp at hv
  subst he
  exact ⟨_, rfl, _, _, _, [], _, [], hW', trodAll_mk1 (shut_bool Tryd.underlying4 _), (trodAll_cons_mk (shut_int Tryd.underlying26 w0) (trodAll_cons_mk (shut_int Tryd.underlying23 w1) (trodAll_cons_mk (shut_int Tryd.underlying23 w2) trodAll_mk0))), rfl, bel.frame _, fun h => by cases h⟩
theorem over : Rows.convLeftRow.holds Tryd.pinned (OpenSpec.ofChange Rows.convLeftSpec) :=
  OpenClaim.holds_of_cond 4 Tryd.f4 rfl rfl rfl rfl rfl rfl rfl ⟨rfl, rfl, rfl, rfl, rfl⟩ rfl rfl rfl rfl rfl (by kernel_rfl) Tryd.func4 (by kernel_rfl)
    (of_decide_eq_true (by kernel_rfl)) (by unfold Func.isWrapper; first | (rw [if_pos (by decide +kernel)]; kernel_rfl) | (rw [if_neg (by decide +kernel)]; exact ⟨rfl, rfl⟩))
    (fun os started H enc _ F0 => by rw [OpenClaim.pre_eq_preRow]; exact lifted os started H enc F0)
theorem saidRow : Rows.ConvLeftSaid := over
theorem proved : Rows.ConvLeftCardSaid :=
  Claim7.holds_tied_plain_at .later [] [.data] true (true, "9220af5f1fc16778f13f6b56ae3743cdd1c68abdb3064679edc1dccaf75d375f") false
    saidRow (fun _ h => by cases h) (by kernel_rfl) (fun _ h => by cases h) convLeft_row_tie rfl ⟨rfl, rfl⟩ (by kernel_rfl) rfl
    (fun f fn hf hfn => by
      obtain rfl : f = 4 := Option.some.inj ((show Tryd.prog.funcNamed Rows.convLeftRow.func = some 4 by kernel_rfl).symm.trans hf) |>.symm
      obtain rfl : fn = Tryd.f4 := (Option.some.inj (Tryd.func4.symm.trans hfn)).symm
      exact ⟨by kernel_rfl, fun j t ht => by
        rw [Tryd.params4] at ht
        have h3 : t = 23 ∨ t = 26 := by
          rcases j with _ | _ | _ | j
          · exact .inr ((Option.some.inj ht).symm)
          · exact .inl ((Option.some.inj ht).symm)
          · exact .inl ((Option.some.inj ht).symm)
          · cases ht
        rcases h3 with rfl | rfl
        · exact (show Tryd.prog.wantsStandIn 23 = false by kernel_rfl)
        · exact (show Tryd.prog.wantsStandIn 26 = false by kernel_rfl)⟩)
    (by kernel_rfl)
#print axioms proved
end Go.Proofs.YtclegbgmhimenaaDoor.convLeft
namespace Go.Proofs.YtclegbgmhimenaaDoor
/-- The card, under a short name, for the claim. -/
theorem convLeft_holds : Rows.ConvLeftCardSaid := convLeft.proved
end Go.Proofs.YtclegbgmhimenaaDoor
