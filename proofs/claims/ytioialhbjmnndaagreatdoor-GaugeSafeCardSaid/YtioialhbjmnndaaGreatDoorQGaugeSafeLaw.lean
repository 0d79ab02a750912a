/- GaugeSafe: whether any exact number is great enough is the document's (magnitudes as above). (The statement as given; no condition of ours.) -/

import Derived.Test.YtioialhbjmnndaaGreatDoorQGaugeSafeG1
import Derived.Test.YtioialhbjmnndaaGreatDoorQGaugeSafeK1
import Derived.Test.YtioialhbjmnndaaGreatDoorQGaugeSafeLaw0
import Derived.Test.YtioialhbjmnndaaGreatDoorRows
import Derived.Test.YtioialhbjmnndaaGreatDoorCards
import Derived.Test.YtioialhbjmnndaaGreatDoorTie
import Derived.SevenTiedAt
import Derived.Deep.DeepHandedRow
import Derived.Lib.LaidTab
import Derived.WalkKit
import Derived.ProofKit
import Derived.OpenShut
import Derived.ChangeOld
import Derived.Below
import Derived.SizedLaws
import Derived.LaidSub
import Derived.Carry
set_option linter.unusedVariables false
set_option linter.unusedSimpArgs false
namespace Go.Proofs.YtioialhbjmnndaaGreatDoor.gaugeSafe
open Go.ChangeShapes Go.WideShapes Go.ChangeAt Go.RowKit
theorem own : ownKnob Tryz.prog.godebug = none := by kernel_rfl
theorem laidOut : laidOutB Tryz.prog = true := by kernel_rfl
theorem int_inr {k : IntKind} {n : Int} (h : (Lit.int k n).wf = true) : Go.Proofs.YtioialhbjmnndaaGreatDoor.Eng.inr k n := by
 intro hs
 cases k <;> first | (cases hs; done) | (simp [Lit.wf, IntKind.min, IntKind.max, IntKind.signed, IntKind.bits] at h; omega)
theorem int_range {k : IntKind} {n : Int} (h : (Lit.int k n).wf = true) : k.min ≤ n ∧ n ≤ k.max := by
 simpa [Lit.wf] using h
theorem gT0 : Tryz.prog.globalNamed "math/bits.deBruijn32tab" = some 0 := by kernel_rfl
theorem gTType0 : (Tryz.prog.globals[0]?).map (·.type) = some 182 := by kernel_rfl
theorem cellsE0 : Tryz.prog.cellsOf 5 = 1 := by kernel_rfl
theorem cellsT0 : Tryz.prog.cellsOf 182 = 32 := by kernel_rfl
def tabZ0 : List Int := [0, 1, 28, 2, 29, 14, 24, 3, 30, 22, 20, 15, 25, 17, 4, 8, 31, 27, 13, 23, 21, 19, 16, 7, 26, 12, 18, 6, 11, 5, 10, 9]
theorem tabZ0_at : ∀ j, j < 32 → tabZ0.getD j 0 = ((Lib.deBruijn32tab.getD j 0 : Nat) : Int) := by decide +kernel
theorem eT30 : Go.Proofs.YtioialhbjmnndaaGreatDoor.Eng.qdU Tryz.prog 30 = true := by kernel_rfl
noncomputable def laidWorld (os : Os) : World :=
 { World.holding Tryz.prog os ⟨#[], #[], []⟩ with heap := ((World.holding Tryz.prog os ⟨#[], #[], []⟩).heap.modify 0 (fun
   | .cells _ t frozen => .cells (tabZ0.map fun z => Value.int .u8 z).toArray t frozen
   | o => o)) }
theorem laidWorld_os (os : Os) : (laidWorld os).os = os := rfl
theorem laid_met (os : Os) (args : Array Value) : laidMet Tryz.prog Rows.gaugeSafeRow.laid ((laidWorld os).forCall (fun _ _ => 0) ⟨#[], args, []⟩).memory :=
 laidMet_of_run' 8 (by kernel_rfl) (by kernel_rfl)
theorem witness_row (os : Os) {H : Type} (enc : TypeId × Value → H) :
  (OpenSpec.ofChange Rows.gaugeSafeSpec).preRow enc Tryz.prog Tryz.f4 Rows.gaugeSafeRow.domain false Rows.gaugeSafeRow.laid ((laidWorld os).forCall (fun _ _ => 0) ⟨#[], #[.int .u8 0, .agg #[.bool false, .slice none 0 0, .int .i64 0, .bool false, .slice none 0 0, .int .i64 0, .bool false, .slice none 0 0, .int .i64 0]], []⟩).memory #[.int .u8 0, .agg #[.bool false, .slice none 0 0, .int .i64 0, .bool false, .slice none 0 0, .int .i64 0, .bool false, .slice none 0 0, .int .i64 0]] := by
 have hw : (DataW.whole enc Tryz.prog ((laidWorld os).forCall (fun _ _ => 0) ⟨#[], #[.int .u8 0, .agg #[.bool false, .slice none 0 0, .int .i64 0, .bool false, .slice none 0 0, .int .i64 0, .bool false, .slice none 0 0, .int .i64 0]], []⟩).memory Tryz.f4.params.toList (OpenSpec.ofChange Rows.gaugeSafeSpec).vars false (#[.int .u8 0, .agg #[.bool false, .slice none 0 0, .int .i64 0, .bool false, .slice none 0 0, .int .i64 0, .bool false, .slice none 0 0, .int .i64 0]] : Array Value).toList 8).map (fun x => (x.1, x.2.1)) =
   some ([.lit (.int .u8 0), .agg [.agg [.lit (.bool false), .nil, .lit (.int .i64 0)], .agg [.lit (.bool false), .nil, .lit (.int .i64 0)], .agg [.lit (.bool false), .nil, .lit (.int .i64 0)]]], []) := by kernel_rfl
 obtain ⟨⟨x1, x2, x3⟩, hx, hx1⟩ := Option.map_eq_some_iff.1 hw
 simp only [Prod.mk.injEq] at hx1
 obtain ⟨rfl, rfl⟩ := hx1
 exact OpenSpec.preRow_of_cond 8 hx (by kernel_rfl) (fun k hk => by cases hk) (by kernel_rfl) (laid_met os _)
set_option maxRecDepth 100000 in
theorem lifted (os : Os) (started : os.Started) (H : Type) (enc : TypeId × Value → H) (F : Stop.Interp) :
  ReturnsInHanded {} Tryz.checked os 4 .any ((OpenSpec.ofChange Rows.gaugeSafeSpec).preRow enc Tryz.prog Tryz.f4 Rows.gaugeSafeRow.domain false Rows.gaugeSafeRow.laid) (((OpenSpec.ofChange Rows.gaugeSafeSpec).at F).post enc Tryz.prog Tryz.f4 false true false false) := by
 refine returnsInHanded_of_row (C := Tryz.checked) (s := (OpenSpec.ofChange Rows.gaugeSafeSpec)) own started (by kernel_rfl) Tryz.func4
  (witness_row_at (enc := enc) (C := Tryz.checked) false (laidWorld os) #[.int .u8 0, .agg #[.bool false, .slice none 0 0, .int .i64 0, .bool false, .slice none 0 0, .int .i64 0, .bool false, .slice none 0 0, .int .i64 0]] (laidWorld_os os) (by kernel_rfl) (by kernel_rfl) (by kernel_rfl) (witness_row os enc)) ?_
 intro W base args ds gs before hval0 hW _ _ hsz0 hL _ _
 have htab0 : Lib.TabIs Tryz.prog W "math/bits.deBruijn32tab" .u8 tabZ0 := Lib.tabIs_of_head (rest := []) gT0 gTType0 Tryz.underlying182 Tryz.underlying5 cellsE0 cellsT0 hL
 have hT : Go.Proofs.YtioialhbjmnndaaGreatDoor.Eng.Ext Go.Proofs.YtioialhbjmnndaaGreatDoor.Eng.za9 (Go.Proofs.YtioialhbjmnndaaGreatDoor.Eng.qbU W) := by
  intro b o v hv
  unfold Go.Proofs.YtioialhbjmnndaaGreatDoor.Eng.za9 at hv
  split at hv
  ·rename_i hbo
   obtain ⟨rfl, ho⟩ := hbo
   obtain rfl := Option.some.inj hv
   show W.cell? _ = _
   rw [htab0.cell gT0 o ho, tabZ0_at o ho]
  ·cases hv
 have hval : ∀ (j : Nat) t v, Tryz.f4.params[j]? = some t → args[j]? = some v → Value.okWide Tryz.prog W .any base t v := hval0
 have hW' := hW
 obtain ⟨p, q, hA0, hV, rfl, hfz, hnd⟩ := hW
 have hA : DataW.TrodAll enc Tryz.prog W 0 (fun _ => true) true Tryz.f4.params.toList args.toList ds p := hA0
 rw [Tryz.params4] at hA hval
 obtain ⟨v0, vs0, d0, ds0, p0, q0, hargs, rfl, rfl, h0, r0⟩ := trodAll_cons hA
 obtain ⟨v1, vs1, d1, ds1, p1, q1, rfl, rfl, rfl, h1, r1⟩ := trodAll_cons r0
 obtain ⟨rfl, rfl, rfl⟩ := trodAll_nil r1
 obtain rfl : args = #[v0, v1] := by cases args; simp_all
 obtain ⟨rfl, rfl⟩ := trodVars_none hV
 obtain ⟨a0, rfl, rfl, rfl, w0⟩ := open_int Tryz.underlying22 (hval 0 22 v0 rfl rfl) h0
 have k1 := h1
 have lt1 : ∀ x ∈ p1, x.block < W.heap.size := by
  obtain ⟨m, hm⟩ := k1
  exact DataW.trod_lt m _ _ _ hm
 obtain ⟨c1_0, c1_1, c1_2, l1_0, l1_1, l1_2, e1_0, e1_1, e1_2, s1_0, s1_1, s1_2, rfl, y1_0, y1_1, y1_2, w1_0, w1_1, w1_2, z1_0, z1_1, z1_2⟩ := Go.Proofs.YtioialhbjmnndaaGreatDoor.Eng.qip eT30 (hval 1 30 v1 rfl rfl) h1
 have r0 := int_range w0
 have n1_0 := Go.Proofs.YtioialhbjmnndaaGreatDoor.Eng.qiu hsz0 (j := 1) (t := 30) (d := d1) rfl rfl z1_0
 have n1_1 := Go.Proofs.YtioialhbjmnndaaGreatDoor.Eng.qiu hsz0 (j := 1) (t := 30) (d := d1) rfl rfl z1_1
 have n1_2 := Go.Proofs.YtioialhbjmnndaaGreatDoor.Eng.qiu hsz0 (j := 1) (t := 30) (d := d1) rfl rfl z1_2
 clear hA0 hval0 hsz0
 obtain ⟨k, hk⟩ := Go.Proofs.YtioialhbjmnndaaGreatDoor.Eng.K.zfo a0 c1_0 c1_1 c1_2 l1_0 l1_1 l1_2 e1_0 e1_1 e1_2 y1_0.2 y1_1.2 y1_2.2 n1_0 n1_1 n1_2
 have hk := hk k (Nat.le_refl k)
 refine (Go.Proofs.YtioialhbjmnndaaGreatDoor.Eng.qin (Go.Proofs.YtioialhbjmnndaaGreatDoor.Eng.zbx.ok k) hT (args := #[.int .u8 a0, .agg #[.bool c1_0, s1_0, .int .i64 e1_0, .bool c1_1, s1_1, .int .i64 e1_1, .bool c1_2, s1_2, .int .i64 e1_2]]) (ls := [.int .u8 a0, .bool c1_0, .ints .u32 l1_0, .int .i64 e1_0, .bool c1_1, .ints .u32 l1_1, .int .i64 e1_1, .bool c1_2, .ints .u32 l1_2, .int .i64 e1_2]) (r := true) rfl ?_ hk rfl).mono fun e W' ⟨he, bel⟩ => ?_
 ·intro i v hv
  rcases i with _ | i
  ·obtain rfl := Option.some.inj hv
   exact ⟨rfl, int_inr w0⟩
  rcases i with _ | i
  ·obtain rfl := Option.some.inj hv
   exact Go.Proofs.YtioialhbjmnndaaGreatDoor.Eng.qid y1_0 y1_1 y1_2
  simp at hv
 subst he
 exact ⟨_, rfl, _, _, _, [], _, [], hW', trodAll_mk1 (shut_bool Tryz.underlying4 _), (trodAll_cons_mk (shut_int Tryz.underlying22 w0) (trodAll_cons_mk (Below.trod laidOut (by kernel_rfl) (of_decide_eq_true (by kernel_rfl)) k1 bel lt1) trodAll_mk0)), rfl, bel.frame _, fun h => by cases h⟩
theorem over : Rows.gaugeSafeRow.holds Tryz.pinned (OpenSpec.ofChange Rows.gaugeSafeSpec) :=
 OpenClaim.holds_of_cond 4 Tryz.f4 rfl rfl rfl rfl rfl rfl rfl ⟨rfl, rfl, rfl, rfl, rfl⟩ rfl rfl rfl rfl rfl (by kernel_rfl) Tryz.func4 closed (of_decide_eq_true inst) wrap
  (fun os started H enc _ F0 => by rw [OpenClaim.pre_eq_preRow]; exact lifted os started H enc F0)
theorem saidRow : Rows.GaugeSafeSaid := over
theorem proved : Rows.GaugeSafeCardSaid :=
 Claim7.holds_tied_plain_at .later [] [.data] true (true, "c4d75ffc4d1b11c68445c77a1dce6f412de4a7e6d6a1d85268c8f85e3d8f816b") false
  saidRow (fun _ h => by cases h) wfText (fun _ h => by cases h) gaugeSafe_row_tie rfl ⟨rfl, rfl⟩ mainOk rfl
  (fun f fn hf hfn => by
   obtain rfl : f = 4 := Option.some.inj (nameOk.symm.trans hf) |>.symm
   obtain rfl : fn = Tryz.f4 := (Option.some.inj (Tryz.func4.symm.trans hfn)).symm
   exact ⟨looksOk, wants⟩)
  goesOk
#print axioms proved
end Go.Proofs.YtioialhbjmnndaaGreatDoor.gaugeSafe
namespace Go.Proofs.YtioialhbjmnndaaGreatDoor
theorem gaugeSafe_holds : Rows.GaugeSafeCardSaid := gaugeSafe.proved
end Go.Proofs.YtioialhbjmnndaaGreatDoor
