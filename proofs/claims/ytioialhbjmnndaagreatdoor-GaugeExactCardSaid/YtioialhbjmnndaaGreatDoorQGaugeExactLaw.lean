/- GaugeExact: what is rounded once in each part, to the nearest even, is within 1 unit of the exact product, and of the exact quotient, if it is finite and that is safe (finite numbers, a divisor that is not nought; the parts are the document's of layer 12). (The statement as given; no condition of ours.) -/

import Derived.Test.YtioialhbjmnndaaGreatDoorQGaugeExactG1
import Derived.Test.YtioialhbjmnndaaGreatDoorQGaugeExactK2
import Derived.Test.YtioialhbjmnndaaGreatDoorQGaugeExactLaw0
import Derived.Test.YtioialhbjmnndaaGreatDoorRows
import Derived.Test.YtioialhbjmnndaaGreatDoorCards
import Derived.Test.YtioialhbjmnndaaGreatDoorTie
import Derived.SevenTiedAt
import Derived.Deep.DeepHandedRow
import Derived.Lib.LaidTab
import Derived.WalkKit
import Derived.ProofKit
import Derived.OpenShut
import Derived.ChangeOld
import Derived.Below
import Derived.SizedLaws
import Derived.LaidSub
set_option linter.unusedVariables false
set_option linter.unusedSimpArgs false
namespace Go.Proofs.YtioialhbjmnndaaGreatDoor.gaugeExact
open Go.ChangeShapes Go.WideShapes Go.ChangeAt Go.RowKit
theorem own : ownKnob Tryz.prog.godebug = none := by kernel_rfl
theorem laidOut : laidOutB Tryz.prog = true := by kernel_rfl
theorem int_inr {k : IntKind} {n : Int} (h : (Lit.int k n).wf = true) : Go.Proofs.YtioialhbjmnndaaGreatDoor.Eng.inr k n := by
 intro hs
 cases k <;> first | (cases hs; done) | (simp [Lit.wf, IntKind.min, IntKind.max, IntKind.signed, IntKind.bits] at h; omega)
theorem int_range {k : IntKind} {n : Int} (h : (Lit.int k n).wf = true) : k.min ≤ n ∧ n ≤ k.max := by
 simpa [Lit.wf] using h
theorem gT0 : Tryz.prog.globalNamed "math/bits.deBruijn32tab" = some 0 := by kernel_rfl
theorem gTType0 : (Tryz.prog.globals[0]?).map (·.type) = some 182 := by kernel_rfl
theorem cellsE0 : Tryz.prog.cellsOf 5 = 1 := by kernel_rfl
theorem cellsT0 : Tryz.prog.cellsOf 182 = 32 := by kernel_rfl
def tabZ0 : List Int := [0, 1, 28, 2, 29, 14, 24, 3, 30, 22, 20, 15, 25, 17, 4, 8, 31, 27, 13, 23, 21, 19, 16, 7, 26, 12, 18, 6, 11, 5, 10, 9]
theorem tabZ0_at : ∀ j, j < 32 → tabZ0.getD j 0 = ((Lib.deBruijn32tab.getD j 0 : Nat) : Int) := by decide +kernel
theorem pT25 : Go.Proofs.YtioialhbjmnndaaGreatDoor.Eng.qc9 Tryz.prog 25 .u64 .u64 = true := by kernel_rfl
noncomputable def laidWorld (os : Os) : World :=
 { World.holding Tryz.prog os ⟨#[], #[], []⟩ with heap := ((World.holding Tryz.prog os ⟨#[], #[], []⟩).heap.modify 0 (fun
   | .cells _ t frozen => .cells (tabZ0.map fun z => Value.int .u8 z).toArray t frozen
   | o => o)) }
theorem laidWorld_os (os : Os) : (laidWorld os).os = os := rfl
theorem laid_met (os : Os) (args : Array Value) : laidMet Tryz.prog Rows.gaugeExactRow.laid ((laidWorld os).forCall (fun _ _ => 0) ⟨#[], args, []⟩).memory :=
 laidMet_of_run' 8 (by kernel_rfl) (by kernel_rfl)
theorem witness_row (os : Os) {H : Type} (enc : TypeId × Value → H) :
  (OpenSpec.ofChange Rows.gaugeExactSpec).preRow enc Tryz.prog Tryz.f6 Rows.gaugeExactRow.domain false Rows.gaugeExactRow.laid ((laidWorld os).forCall (fun _ _ => 0) ⟨#[], #[.int .u8 0, .agg #[.int .u64 0, .int .u64 0], .agg #[.int .u64 0, .int .u64 0], .bool false], []⟩).memory #[.int .u8 0, .agg #[.int .u64 0, .int .u64 0], .agg #[.int .u64 0, .int .u64 0], .bool false] := by
 have hw : (DataW.whole enc Tryz.prog ((laidWorld os).forCall (fun _ _ => 0) ⟨#[], #[.int .u8 0, .agg #[.int .u64 0, .int .u64 0], .agg #[.int .u64 0, .int .u64 0], .bool false], []⟩).memory Tryz.f6.params.toList (OpenSpec.ofChange Rows.gaugeExactSpec).vars false (#[.int .u8 0, .agg #[.int .u64 0, .int .u64 0], .agg #[.int .u64 0, .int .u64 0], .bool false] : Array Value).toList 8).map (fun x => (x.1, x.2.1)) =
   some ([.lit (.int .u8 0), .agg [.lit (.int .u64 0), .lit (.int .u64 0)], .agg [.lit (.int .u64 0), .lit (.int .u64 0)], .lit (.bool false)], []) := by kernel_rfl
 obtain ⟨⟨x1, x2, x3⟩, hx, hx1⟩ := Option.map_eq_some_iff.1 hw
 simp only [Prod.mk.injEq] at hx1
 obtain ⟨rfl, rfl⟩ := hx1
 exact OpenSpec.preRow_of_cond 8 hx (by kernel_rfl) (fun k hk => by cases hk) (by kernel_rfl) (laid_met os _)
set_option maxRecDepth 100000 in
theorem lifted (os : Os) (started : os.Started) (H : Type) (enc : TypeId × Value → H) (F : Stop.Interp) :
  ReturnsInHanded {} Tryz.checked os 6 .any ((OpenSpec.ofChange Rows.gaugeExactSpec).preRow enc Tryz.prog Tryz.f6 Rows.gaugeExactRow.domain false Rows.gaugeExactRow.laid) (((OpenSpec.ofChange Rows.gaugeExactSpec).at F).post enc Tryz.prog Tryz.f6 false true false false) := by
 refine returnsInHanded_of_row (C := Tryz.checked) (s := (OpenSpec.ofChange Rows.gaugeExactSpec)) own started (by kernel_rfl) Tryz.func6
  (witness_row_at (enc := enc) (C := Tryz.checked) false (laidWorld os) #[.int .u8 0, .agg #[.int .u64 0, .int .u64 0], .agg #[.int .u64 0, .int .u64 0], .bool false] (laidWorld_os os) (by kernel_rfl) (by kernel_rfl) (by kernel_rfl) (witness_row os enc)) ?_
 intro W base args ds gs before hval0 hW _ _ hsz0 hL _ _
 have htab0 : Lib.TabIs Tryz.prog W "math/bits.deBruijn32tab" .u8 tabZ0 := Lib.tabIs_of_head (rest := []) gT0 gTType0 Tryz.underlying182 Tryz.underlying5 cellsE0 cellsT0 hL
 have hT : Go.Proofs.YtioialhbjmnndaaGreatDoor.Eng.Ext Go.Proofs.YtioialhbjmnndaaGreatDoor.Eng.zcS (Go.Proofs.YtioialhbjmnndaaGreatDoor.Eng.qbU W) := by
  intro b o v hv
  unfold Go.Proofs.YtioialhbjmnndaaGreatDoor.Eng.zcS at hv
  split at hv
  ·rename_i hbo
   obtain ⟨rfl, ho⟩ := hbo
   obtain rfl := Option.some.inj hv
   show W.cell? _ = _
   rw [htab0.cell gT0 o ho, tabZ0_at o ho]
  ·cases hv
 have hval : ∀ (j : Nat) t v, Tryz.f6.params[j]? = some t → args[j]? = some v → Value.okWide Tryz.prog W .any base t v := hval0
 have hW' := hW
 obtain ⟨p, q, hA0, hV, rfl, hfz, hnd⟩ := hW
 have hA : DataW.TrodAll enc Tryz.prog W 0 (fun _ => true) true Tryz.f6.params.toList args.toList ds p := hA0
 rw [Tryz.params6] at hA hval
 obtain ⟨v0, vs0, d0, ds0, p0, q0, hargs, rfl, rfl, h0, r0⟩ := trodAll_cons hA
 obtain ⟨v1, vs1, d1, ds1, p1, q1, rfl, rfl, rfl, h1, r1⟩ := trodAll_cons r0
 obtain ⟨v2, vs2, d2, ds2, p2, q2, rfl, rfl, rfl, h2, r2⟩ := trodAll_cons r1
 obtain ⟨v3, vs3, d3, ds3, p3, q3, rfl, rfl, rfl, h3, r3⟩ := trodAll_cons r2
 obtain ⟨rfl, rfl, rfl⟩ := trodAll_nil r3
 obtain rfl : args = #[v0, v1, v2, v3] := by cases args; simp_all
 obtain ⟨rfl, rfl⟩ := trodVars_none hV
 obtain ⟨a0, rfl, rfl, rfl, w0⟩ := open_int Tryz.underlying22 (hval 0 22 v0 rfl rfl) h0
 obtain ⟨a1, b1, rfl, rfl, rfl, w1, u1⟩ := Go.Proofs.YtioialhbjmnndaaGreatDoor.Eng.qiq pT25 (hval 1 25 v1 rfl rfl) h1
 obtain ⟨a2, b2, rfl, rfl, rfl, w2, u2⟩ := Go.Proofs.YtioialhbjmnndaaGreatDoor.Eng.qiq pT25 (hval 2 25 v2 rfl rfl) h2
 obtain ⟨a3, rfl, rfl, rfl⟩ := open_bool Tryz.underlying4 (hval 3 4 v3 rfl rfl) h3
 have r0 := int_range w0
 have r1 := int_range w1
 have s1 := int_range u1
 have r2 := int_range w2
 have s2 := int_range u2
 clear hA0 hval0 hsz0
 obtain ⟨k, hk⟩ := Go.Proofs.YtioialhbjmnndaaGreatDoor.Eng.K.ziY a0 a1 b1 a2 b2 r1 s1 r2 s2 a3
 have hk := hk k (Nat.le_refl k)
 refine (Go.Proofs.YtioialhbjmnndaaGreatDoor.Eng.qin (Go.Proofs.YtioialhbjmnndaaGreatDoor.Eng.zaN.ok k) hT (args := #[.int .u8 a0, .agg #[.int .u64 a1, .int .u64 b1], .agg #[.int .u64 a2, .int .u64 b2], .bool a3]) (ls := [.int .u8 a0, .int .u64 a1, .int .u64 b1, .int .u64 a2, .int .u64 b2, .bool a3]) (r := true) rfl ?_ hk rfl).mono fun e W' ⟨he, bel⟩ => ?_
 ·intro i v hv
  rcases i with _ | i
  ·obtain rfl := Option.some.inj hv
   exact ⟨rfl, int_inr w0⟩
  rcases i with _ | i
  ·obtain rfl := Option.some.inj hv
   exact Go.Proofs.YtioialhbjmnndaaGreatDoor.Eng.qie (int_inr w1) (int_inr u1)
  rcases i with _ | i
  ·obtain rfl := Option.some.inj hv
   exact Go.Proofs.YtioialhbjmnndaaGreatDoor.Eng.qie (int_inr w2) (int_inr u2)
  rcases i with _ | i
  ·obtain rfl := Option.some.inj hv
   exact rfl
  simp at hv
 subst he
 exact ⟨_, rfl, _, _, _, [], _, [], hW', trodAll_mk1 (shut_bool Tryz.underlying4 _), (trodAll_cons_mk (shut_int Tryz.underlying22 w0) (trodAll_cons_mk (Go.Proofs.YtioialhbjmnndaaGreatDoor.Eng.qit pT25 w1 u1) (trodAll_cons_mk (Go.Proofs.YtioialhbjmnndaaGreatDoor.Eng.qit pT25 w2 u2) (trodAll_cons_mk (shut_bool Tryz.underlying4 _) trodAll_mk0)))), rfl, bel.frame _, fun h => by cases h⟩
theorem over : Rows.gaugeExactRow.holds Tryz.pinned (OpenSpec.ofChange Rows.gaugeExactSpec) :=
 OpenClaim.holds_of_cond 6 Tryz.f6 rfl rfl rfl rfl rfl rfl rfl ⟨rfl, rfl, rfl, rfl, rfl⟩ rfl rfl rfl rfl rfl (by kernel_rfl) Tryz.func6 closed (of_decide_eq_true inst) wrap
  (fun os started H enc _ F0 => by rw [OpenClaim.pre_eq_preRow]; exact lifted os started H enc F0)
theorem saidRow : Rows.GaugeExactSaid := over
theorem proved : Rows.GaugeExactCardSaid :=
 Claim7.holds_tied_plain_at .later [] [.data] true (true, "c4d75ffc4d1b11c68445c77a1dce6f412de4a7e6d6a1d85268c8f85e3d8f816b") false
  saidRow (fun _ h => by cases h) wfText (fun _ h => by cases h) gaugeExact_row_tie rfl ⟨rfl, rfl⟩ mainOk rfl
  (fun f fn hf hfn => by
   obtain rfl : f = 6 := Option.some.inj (nameOk.symm.trans hf) |>.symm
   obtain rfl : fn = Tryz.f6 := (Option.some.inj (Tryz.func6.symm.trans hfn)).symm
   exact ⟨looksOk, wants⟩)
  goesOk
#print axioms proved
end Go.Proofs.YtioialhbjmnndaaGreatDoor.gaugeExact
namespace Go.Proofs.YtioialhbjmnndaaGreatDoor
theorem gaugeExact_holds : Rows.GaugeExactCardSaid := gaugeExact.proved
end Go.Proofs.YtioialhbjmnndaaGreatDoor
