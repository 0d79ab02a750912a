/- GaugeMeasures: whether any pair is within any number of units of any exact number, and within how many, is the document's (magnitudes of at most 1300 digits together). (The statement as given; no condition of ours.) -/

import Derived.Test.YtioialhbjmnndaaGreatDoorQGaugeMeasuresG1
import Derived.Test.YtioialhbjmnndaaGreatDoorQGaugeMeasuresK2
import Derived.Test.YtioialhbjmnndaaGreatDoorQGaugeMeasuresLaw0
import Derived.Test.YtioialhbjmnndaaGreatDoorRows
import Derived.Test.YtioialhbjmnndaaGreatDoorCards
import Derived.Test.YtioialhbjmnndaaGreatDoorTie
import Derived.SevenTiedAt
import Derived.Deep.DeepHandedRow
import Derived.Lib.LaidTab
import Derived.WalkKit
import Derived.ProofKit
import Derived.OpenShut
import Derived.ChangeOld
import Derived.Below
import Derived.SizedLaws
import Derived.LaidSub
import Derived.Carry
set_option linter.unusedVariables false
set_option linter.unusedSimpArgs false
namespace Go.Proofs.YtioialhbjmnndaaGreatDoor.gaugeMeasures
open Go.ChangeShapes Go.WideShapes Go.ChangeAt Go.RowKit
theorem own : ownKnob Tryz.prog.godebug = none := by kernel_rfl
theorem laidOut : laidOutB Tryz.prog = true := by kernel_rfl
theorem int_inr {k : IntKind} {n : Int} (h : (Lit.int k n).wf = true) : Go.Proofs.YtioialhbjmnndaaGreatDoor.Eng.inr k n := by
 intro hs
 cases k <;> first | (cases hs; done) | (simp [Lit.wf, IntKind.min, IntKind.max, IntKind.signed, IntKind.bits] at h; omega)
theorem int_range {k : IntKind} {n : Int} (h : (Lit.int k n).wf = true) : k.min ≤ n ∧ n ≤ k.max := by
 simpa [Lit.wf] using h
theorem gT0 : Tryz.prog.globalNamed "math/bits.deBruijn32tab" = some 0 := by kernel_rfl
theorem gTType0 : (Tryz.prog.globals[0]?).map (·.type) = some 182 := by kernel_rfl
theorem cellsE0 : Tryz.prog.cellsOf 5 = 1 := by kernel_rfl
theorem cellsT0 : Tryz.prog.cellsOf 182 = 32 := by kernel_rfl
def tabZ0 : List Int := [0, 1, 28, 2, 29, 14, 24, 3, 30, 22, 20, 15, 25, 17, 4, 8, 31, 27, 13, 23, 21, 19, 16, 7, 26, 12, 18, 6, 11, 5, 10, 9]
theorem tabZ0_at : ∀ j, j < 32 → tabZ0.getD j 0 = ((Lib.deBruijn32tab.getD j 0 : Nat) : Int) := by decide +kernel
theorem pT25 : Go.Proofs.YtioialhbjmnndaaGreatDoor.Eng.qc9 Tryz.prog 25 .u64 .u64 = true := by kernel_rfl
theorem eT30 : Go.Proofs.YtioialhbjmnndaaGreatDoor.Eng.qdU Tryz.prog 30 = true := by kernel_rfl
noncomputable def laidWorld (os : Os) : World :=
 { World.holding Tryz.prog os ⟨#[], #[], []⟩ with heap := ((World.holding Tryz.prog os ⟨#[], #[], []⟩).heap.modify 0 (fun
   | .cells _ t frozen => .cells (tabZ0.map fun z => Value.int .u8 z).toArray t frozen
   | o => o)) }
theorem laidWorld_os (os : Os) : (laidWorld os).os = os := rfl
theorem laid_met (os : Os) (args : Array Value) : laidMet Tryz.prog Rows.gaugeMeasuresRow.laid ((laidWorld os).forCall (fun _ _ => 0) ⟨#[], args, []⟩).memory :=
 laidMet_of_run' 8 (by kernel_rfl) (by kernel_rfl)
theorem witness_row (os : Os) {H : Type} (enc : TypeId × Value → H) :
  (OpenSpec.ofChange Rows.gaugeMeasuresSpec).preRow enc Tryz.prog Tryz.f3 Rows.gaugeMeasuresRow.domain false Rows.gaugeMeasuresRow.laid ((laidWorld os).forCall (fun _ _ => 0) ⟨#[], #[.int .u8 0, .agg #[.int .u64 0, .int .u64 0], .agg #[.bool false, .slice none 0 0, .int .i64 0, .bool false, .slice none 0 0, .int .i64 0, .bool false, .slice none 0 0, .int .i64 0], .int .i64 0], []⟩).memory #[.int .u8 0, .agg #[.int .u64 0, .int .u64 0], .agg #[.bool false, .slice none 0 0, .int .i64 0, .bool false, .slice none 0 0, .int .i64 0, .bool false, .slice none 0 0, .int .i64 0], .int .i64 0] := by
 have hw : (DataW.whole enc Tryz.prog ((laidWorld os).forCall (fun _ _ => 0) ⟨#[], #[.int .u8 0, .agg #[.int .u64 0, .int .u64 0], .agg #[.bool false, .slice none 0 0, .int .i64 0, .bool false, .slice none 0 0, .int .i64 0, .bool false, .slice none 0 0, .int .i64 0], .int .i64 0], []⟩).memory Tryz.f3.params.toList (OpenSpec.ofChange Rows.gaugeMeasuresSpec).vars false (#[.int .u8 0, .agg #[.int .u64 0, .int .u64 0], .agg #[.bool false, .slice none 0 0, .int .i64 0, .bool false, .slice none 0 0, .int .i64 0, .bool false, .slice none 0 0, .int .i64 0], .int .i64 0] : Array Value).toList 8).map (fun x => (x.1, x.2.1)) =
   some ([.lit (.int .u8 0), .agg [.lit (.int .u64 0), .lit (.int .u64 0)], .agg [.agg [.lit (.bool false), .nil, .lit (.int .i64 0)], .agg [.lit (.bool false), .nil, .lit (.int .i64 0)], .agg [.lit (.bool false), .nil, .lit (.int .i64 0)]], .lit (.int .i64 0)], []) := by kernel_rfl
 obtain ⟨⟨x1, x2, x3⟩, hx, hx1⟩ := Option.map_eq_some_iff.1 hw
 simp only [Prod.mk.injEq] at hx1
 obtain ⟨rfl, rfl⟩ := hx1
 exact OpenSpec.preRow_of_cond 8 hx (by kernel_rfl) (fun k hk => by cases hk) (by kernel_rfl) (laid_met os _)
set_option maxRecDepth 100000 in
theorem lifted (os : Os) (started : os.Started) (H : Type) (enc : TypeId × Value → H) (F : Stop.Interp) :
  ReturnsInHanded {} Tryz.checked os 3 .any ((OpenSpec.ofChange Rows.gaugeMeasuresSpec).preRow enc Tryz.prog Tryz.f3 Rows.gaugeMeasuresRow.domain false Rows.gaugeMeasuresRow.laid) (((OpenSpec.ofChange Rows.gaugeMeasuresSpec).at F).post enc Tryz.prog Tryz.f3 false true false false) := by
 refine returnsInHanded_of_row (C := Tryz.checked) (s := (OpenSpec.ofChange Rows.gaugeMeasuresSpec)) own started (by kernel_rfl) Tryz.func3
  (witness_row_at (enc := enc) (C := Tryz.checked) false (laidWorld os) #[.int .u8 0, .agg #[.int .u64 0, .int .u64 0], .agg #[.bool false, .slice none 0 0, .int .i64 0, .bool false, .slice none 0 0, .int .i64 0, .bool false, .slice none 0 0, .int .i64 0], .int .i64 0] (laidWorld_os os) (by kernel_rfl) (by kernel_rfl) (by kernel_rfl) (witness_row os enc)) ?_
 intro W base args ds gs before hval0 hW _ _ hsz0 hL _ _
 have htab0 : Lib.TabIs Tryz.prog W "math/bits.deBruijn32tab" .u8 tabZ0 := Lib.tabIs_of_head (rest := []) gT0 gTType0 Tryz.underlying182 Tryz.underlying5 cellsE0 cellsT0 hL
 have hT : Go.Proofs.YtioialhbjmnndaaGreatDoor.Eng.Ext Go.Proofs.YtioialhbjmnndaaGreatDoor.Eng.zbW (Go.Proofs.YtioialhbjmnndaaGreatDoor.Eng.qbU W) := by
  intro b o v hv
  unfold Go.Proofs.YtioialhbjmnndaaGreatDoor.Eng.zbW at hv
  split at hv
  ·rename_i hbo
   obtain ⟨rfl, ho⟩ := hbo
   obtain rfl := Option.some.inj hv
   show W.cell? _ = _
   rw [htab0.cell gT0 o ho, tabZ0_at o ho]
  ·cases hv
 have hval : ∀ (j : Nat) t v, Tryz.f3.params[j]? = some t → args[j]? = some v → Value.okWide Tryz.prog W .any base t v := hval0
 have hW' := hW
 obtain ⟨p, q, hA0, hV, rfl, hfz, hnd⟩ := hW
 have hA : DataW.TrodAll enc Tryz.prog W 0 (fun _ => true) true Tryz.f3.params.toList args.toList ds p := hA0
 rw [Tryz.params3] at hA hval
 obtain ⟨v0, vs0, d0, ds0, p0, q0, hargs, rfl, rfl, h0, r0⟩ := trodAll_cons hA
 obtain ⟨v1, vs1, d1, ds1, p1, q1, rfl, rfl, rfl, h1, r1⟩ := trodAll_cons r0
 obtain ⟨v2, vs2, d2, ds2, p2, q2, rfl, rfl, rfl, h2, r2⟩ := trodAll_cons r1
 obtain ⟨v3, vs3, d3, ds3, p3, q3, rfl, rfl, rfl, h3, r3⟩ := trodAll_cons r2
 obtain ⟨rfl, rfl, rfl⟩ := trodAll_nil r3
 obtain rfl : args = #[v0, v1, v2, v3] := by cases args; simp_all
 obtain ⟨rfl, rfl⟩ := trodVars_none hV
 obtain ⟨a0, rfl, rfl, rfl, w0⟩ := open_int Tryz.underlying22 (hval 0 22 v0 rfl rfl) h0
 obtain ⟨a1, b1, rfl, rfl, rfl, w1, u1⟩ := Go.Proofs.YtioialhbjmnndaaGreatDoor.Eng.qiq pT25 (hval 1 25 v1 rfl rfl) h1
 have k2 := h2
 have lt2 : ∀ x ∈ p2, x.block < W.heap.size := by
  obtain ⟨m, hm⟩ := k2
  exact DataW.trod_lt m _ _ _ hm
 obtain ⟨c2_0, c2_1, c2_2, l2_0, l2_1, l2_2, e2_0, e2_1, e2_2, s2_0, s2_1, s2_2, rfl, y2_0, y2_1, y2_2, w2_0, w2_1, w2_2, z2_0, z2_1, z2_2⟩ := Go.Proofs.YtioialhbjmnndaaGreatDoor.Eng.qip eT30 (hval 2 30 v2 rfl rfl) h2
 obtain ⟨a3, rfl, rfl, rfl, w3⟩ := open_int Tryz.underlying3 (hval 3 3 v3 rfl rfl) h3
 have r0 := int_range w0
 have r1 := int_range w1
 have s1 := int_range u1
 have n2_0 := Go.Proofs.YtioialhbjmnndaaGreatDoor.Eng.qiu hsz0 (j := 2) (t := 30) (d := d2) rfl rfl z2_0
 have n2_1 := Go.Proofs.YtioialhbjmnndaaGreatDoor.Eng.qiu hsz0 (j := 2) (t := 30) (d := d2) rfl rfl z2_1
 have n2_2 := Go.Proofs.YtioialhbjmnndaaGreatDoor.Eng.qiu hsz0 (j := 2) (t := 30) (d := d2) rfl rfl z2_2
 have r3 := int_range w3
 clear hA0 hval0 hsz0
 obtain ⟨k, hk⟩ := Go.Proofs.YtioialhbjmnndaaGreatDoor.Eng.K.zg1 a0 a1 b1 r1 s1 c2_0 c2_1 c2_2 l2_0 l2_1 l2_2 e2_0 e2_1 e2_2 y2_0.2 y2_1.2 y2_2.2 n2_0 n2_1 n2_2 a3 r3
 have hk := hk k (Nat.le_refl k)
 refine (Go.Proofs.YtioialhbjmnndaaGreatDoor.Eng.qin (Go.Proofs.YtioialhbjmnndaaGreatDoor.Eng.zao.ok k) hT (args := #[.int .u8 a0, .agg #[.int .u64 a1, .int .u64 b1], .agg #[.bool c2_0, s2_0, .int .i64 e2_0, .bool c2_1, s2_1, .int .i64 e2_1, .bool c2_2, s2_2, .int .i64 e2_2], .int .i64 a3]) (ls := [.int .u8 a0, .int .u64 a1, .int .u64 b1, .bool c2_0, .ints .u32 l2_0, .int .i64 e2_0, .bool c2_1, .ints .u32 l2_1, .int .i64 e2_1, .bool c2_2, .ints .u32 l2_2, .int .i64 e2_2, .int .i64 a3]) (r := true) rfl ?_ hk rfl).mono fun e W' ⟨he, bel⟩ => ?_
 ·intro i v hv
  rcases i with _ | i
  ·obtain rfl := Option.some.inj hv
   exact ⟨rfl, int_inr w0⟩
  rcases i with _ | i
  ·obtain rfl := Option.some.inj hv
   exact Go.Proofs.YtioialhbjmnndaaGreatDoor.Eng.qie (int_inr w1) (int_inr u1)
  rcases i with _ | i
  ·obtain rfl := Option.some.inj hv
   exact Go.Proofs.YtioialhbjmnndaaGreatDoor.Eng.qid y2_0 y2_1 y2_2
  rcases i with _ | i
  ·obtain rfl := Option.some.inj hv
   exact ⟨rfl, int_inr w3⟩
  simp at hv
 subst he
 exact ⟨_, rfl, _, _, _, [], _, [], hW', trodAll_mk1 (shut_bool Tryz.underlying4 _), (trodAll_cons_mk (shut_int Tryz.underlying22 w0) (trodAll_cons_mk (Go.Proofs.YtioialhbjmnndaaGreatDoor.Eng.qit pT25 w1 u1) (trodAll_cons_mk (Below.trod laidOut (by kernel_rfl) (of_decide_eq_true (by kernel_rfl)) k2 bel lt2) (trodAll_cons_mk (shut_int Tryz.underlying3 w3) trodAll_mk0)))), rfl, bel.frame _, fun h => by cases h⟩
theorem over : Rows.gaugeMeasuresRow.holds Tryz.pinned (OpenSpec.ofChange Rows.gaugeMeasuresSpec) :=
 OpenClaim.holds_of_cond 3 Tryz.f3 rfl rfl rfl rfl rfl rfl rfl ⟨rfl, rfl, rfl, rfl, rfl⟩ rfl rfl rfl rfl rfl (by kernel_rfl) Tryz.func3 closed (of_decide_eq_true inst) wrap
  (fun os started H enc _ F0 => by rw [OpenClaim.pre_eq_preRow]; exact lifted os started H enc F0)
theorem saidRow : Rows.GaugeMeasuresSaid := over
theorem proved : Rows.GaugeMeasuresCardSaid :=
 Claim7.holds_tied_plain_at .later [] [.data] true (true, "c4d75ffc4d1b11c68445c77a1dce6f412de4a7e6d6a1d85268c8f85e3d8f816b") false
  saidRow (fun _ h => by cases h) wfText (fun _ h => by cases h) gaugeMeasures_row_tie rfl ⟨rfl, rfl⟩ mainOk rfl
  (fun f fn hf hfn => by
   obtain rfl : f = 3 := Option.some.inj (nameOk.symm.trans hf) |>.symm
   obtain rfl : fn = Tryz.f3 := (Option.some.inj (Tryz.func3.symm.trans hfn)).symm
   exact ⟨looksOk, wants⟩)
  goesOk
#print axioms proved
end Go.Proofs.YtioialhbjmnndaaGreatDoor.gaugeMeasures
namespace Go.Proofs.YtioialhbjmnndaaGreatDoor
theorem gaugeMeasures_holds : Rows.GaugeMeasuresCardSaid := gaugeMeasures.proved
end Go.Proofs.YtioialhbjmnndaaGreatDoor
