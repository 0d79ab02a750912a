/- HexaMoved: a text whose exponent is 4 less, with one 0 more ahead of its p, or behind its point, says the same (texts without a name, of at most 1000 bytes; without the document's answer). (The statement as given; no condition of ours.) -/
import Derived.Test.YtbcjdlljmhfhdaaDoorQHexaMovedG1
import Derived.Test.YtbcjdlljmhfhdaaDoorQHexaMovedK1
import Derived.Test.YtbcjdlljmhfhdaaDoorRows
import Derived.Test.YtbcjdlljmhfhdaaDoorCards
import Derived.Test.YtbcjdlljmhfhdaaDoorTie
import Derived.SevenTiedAt
import Derived.Deep.DeepHandedRow
import Derived.Lib.LaidTab
import Derived.WalkKit
import Derived.ProofKit
import Derived.OpenShut
import Derived.ChangeOld
import Derived.Below
import Derived.SizedLaws
import Derived.LaidSub
import Derived.ChangeMaps5
set_option linter.unusedVariables false
set_option linter.unusedSimpArgs false
namespace Go.Proofs.YtbcjdlljmhfhdaaDoor.hexaMoved
open Go.ChangeShapes Go.WideShapes Go.ChangeAt Go.RowKit
set_option linter.unusedVariables false
theorem own : ownKnob Tryd.prog.godebug = none := by kernel_rfl
theorem laidOut : laidOutB Tryd.prog = true := by kernel_rfl
theorem int_inr {k : IntKind} {n : Int} (h : (Lit.int k n).wf = true) : Go.Proofs.YtbcjdlljmhfhdaaDoor.Eng.inr k n := by
  intro hs
  cases k <;> first | (cases hs; done) | (simp [Lit.wf, IntKind.min, IntKind.max, IntKind.signed, IntKind.bits] at h; omega)
theorem int_range {k : IntKind} {n : Int} (h : (Lit.int k n).wf = true) : k.min ≤ n ∧ n ≤ k.max := by
  simpa [Lit.wf] using h
theorem gT0 : Tryd.prog.globalNamed "math/bits.deBruijn32tab" = some 0 := by kernel_rfl
theorem gTType0 : (Tryd.prog.globals[0]?).map (·.type) = some 127 := by kernel_rfl
theorem cellsE0 : Tryd.prog.cellsOf 5 = 1 := by kernel_rfl
theorem cellsT0 : Tryd.prog.cellsOf 127 = 32 := by kernel_rfl
def tabZ0 : List Int := [0, 1, 28, 2, 29, 14, 24, 3, 30, 22, 20, 15, 25, 17, 4, 8, 31, 27, 13, 23, 21, 19, 16, 7, 26, 12, 18, 6, 11, 5, 10, 9]
theorem tabZ0_at : ∀ j, j < 32 → tabZ0.getD j 0 = ((Lib.deBruijn32tab.getD j 0 : Nat) : Int) := by decide +kernel
theorem gT1 : Tryd.prog.globalNamed "internal/strconv.uint64pow10" = some 1 := by kernel_rfl
theorem gTType1 : (Tryd.prog.globals[1]?).map (·.type) = some 143 := by kernel_rfl
theorem cellsE1 : Tryd.prog.cellsOf 27 = 1 := by kernel_rfl
theorem cellsT1 : Tryd.prog.cellsOf 143 = 20 := by kernel_rfl
def tabZ1 : List Int := [1, 10, 100, 1000, 10000, 100000, 1000000, 10000000, 100000000, 1000000000, 10000000000, 100000000000, 1000000000000, 10000000000000, 100000000000000, 1000000000000000, 10000000000000000, 100000000000000000, 1000000000000000000, 10000000000000000000]
theorem tabZ1_at : ∀ j, j < 20 → tabZ1.getD j 0 = ((10 ^ j : Nat) : Int) := by decide +kernel
theorem gT2 : Tryd.prog.globalNamed "math/bits.deBruijn64tab" = some 3 := by kernel_rfl
theorem gTType2 : (Tryd.prog.globals[3]?).map (·.type) = some 151 := by kernel_rfl
theorem cellsE2 : Tryd.prog.cellsOf 5 = 1 := by kernel_rfl
theorem cellsT2 : Tryd.prog.cellsOf 151 = 64 := by kernel_rfl
def tabZ2 : List Int := [0, 1, 56, 2, 57, 49, 28, 3, 61, 58, 42, 50, 38, 29, 17, 4, 62, 47, 59, 36, 45, 43, 51, 22, 53, 39, 33, 30, 24, 18, 12, 5, 63, 55, 48, 27, 60, 41, 37, 16, 46, 35, 44, 21, 52, 32, 23, 11, 54, 26, 40, 15, 34, 20, 31, 10, 25, 14, 19, 9, 13, 8, 7, 6]
theorem tabZ2_at : ∀ j, j < 64 → tabZ2.getD j 0 = ((Lib.deBruijn64tab.getD j 0 : Nat) : Int) := by decide +kernel
/-- The settled world, the table as its initialiser lays it: the witness. -/
noncomputable def laidWorld (os : Os) : World :=
  { World.holding Tryd.prog os ⟨#[], #[], []⟩ with heap := ((((World.holding Tryd.prog os ⟨#[], #[], []⟩).heap.modify 0 (fun
      | .cells _ t frozen => .cells (tabZ0.map fun z => Value.int .u8 z).toArray t frozen
      | o => o)).modify 1 (fun
      | .cells _ t frozen => .cells (tabZ1.map fun z => Value.int .u64 z).toArray t frozen
      | o => o)).modify 3 (fun
      | .cells _ t frozen => .cells (tabZ2.map fun z => Value.int .u8 z).toArray t frozen
      | o => o)) }
theorem laid_met (os : Os) (args : Array Value) : laidMet Tryd.prog Rows.hexaMovedRow.laid ((laidWorld os).forCall (fun _ _ => 0) ⟨#[], args, []⟩).memory :=
  laidMet_of_run' 8 (by kernel_rfl) (by kernel_rfl)
theorem witness_row (os : Os) {H : Type} (enc : TypeId × Value → H) :
    (OpenSpec.ofChange Rows.hexaMovedSpec).preRow enc Tryd.prog Tryd.f3 Rows.hexaMovedRow.domain false Rows.hexaMovedRow.laid ((laidWorld os).forCall (fun _ _ => 0) ⟨#[], #[.int .u8 0, .int .u8 0, .string ⟨#[]⟩, .string ⟨#[]⟩, .int .i64 0], []⟩).memory #[.int .u8 0, .int .u8 0, .string ⟨#[]⟩, .string ⟨#[]⟩, .int .i64 0] := by
  have hw : (DataW.whole enc Tryd.prog ((laidWorld os).forCall (fun _ _ => 0) ⟨#[], #[.int .u8 0, .int .u8 0, .string ⟨#[]⟩, .string ⟨#[]⟩, .int .i64 0], []⟩).memory Tryd.f3.params.toList (OpenSpec.ofChange Rows.hexaMovedSpec).vars false (#[.int .u8 0, .int .u8 0, .string ⟨#[]⟩, .string ⟨#[]⟩, .int .i64 0] : Array Value).toList 8).map (fun x => (x.1, x.2.1)) =
      some ([.lit (.int .u8 0), .lit (.int .u8 0), .lit (.string []), .lit (.string []), .lit (.int .i64 0)], []) := by kernel_rfl
  obtain ⟨⟨x1, x2, x3⟩, hx, hx1⟩ := Option.map_eq_some_iff.1 hw
  simp only [Prod.mk.injEq] at hx1
  obtain ⟨rfl, rfl⟩ := hx1
  exact OpenSpec.preRow_of_cond 8 hx (by kernel_rfl) (fun k hk => by cases hk) (by kernel_rfl) (laid_met os _)
set_option maxRecDepth 100000 in
theorem lifted (os : Os) (started : os.Started) (H : Type) (enc : TypeId × Value → H) (F : Stop.Interp) :
    ReturnsInHanded {} Tryd.checked os 3 .any ((OpenSpec.ofChange Rows.hexaMovedSpec).preRow enc Tryd.prog Tryd.f3 Rows.hexaMovedRow.domain false Rows.hexaMovedRow.laid) (((OpenSpec.ofChange Rows.hexaMovedSpec).at F).post enc Tryd.prog Tryd.f3 false true false false) := by
  refine returnsInHanded_of_row (C := Tryd.checked) (s := (OpenSpec.ofChange Rows.hexaMovedSpec)) own started (by kernel_rfl) Tryd.func3
    (witness_row_at (enc := enc) (C := Tryd.checked) false (laidWorld os) #[.int .u8 0, .int .u8 0, .string ⟨#[]⟩, .string ⟨#[]⟩, .int .i64 0] rfl (by kernel_rfl) (by kernel_rfl) (by kernel_rfl) (witness_row os enc)) ?_
  intro W base args ds gs before hval0 hW _ _ hsz0 hL _ _
  have htab0 : Lib.TabIs Tryd.prog W "math/bits.deBruijn32tab" .u8 tabZ0 := Lib.tabIs_of_head (rest := []) gT0 gTType0 Tryd.underlying127 Tryd.underlying5 cellsE0 cellsT0 (by
    have h := laidMet.filter (fun x => x.1 == "math/bits.deBruijn32tab") (show laidMet Tryd.prog Rows.hexaMovedRow.laid W from hL)
    have e : Rows.hexaMovedRow.laid.filter (fun x => x.1 == "math/bits.deBruijn32tab") = [("math/bits.deBruijn32tab", Lib.tabData .u8 tabZ0)] := by kernel_rfl
    rwa [e] at h)
  have htab1 : Lib.TabIs Tryd.prog W "internal/strconv.uint64pow10" .u64 tabZ1 := Lib.tabIs_of_head (rest := []) gT1 gTType1 Tryd.underlying143 Tryd.underlying27 cellsE1 cellsT1 (by
    have h := laidMet.filter (fun x => x.1 == "internal/strconv.uint64pow10") (show laidMet Tryd.prog Rows.hexaMovedRow.laid W from hL)
    have e : Rows.hexaMovedRow.laid.filter (fun x => x.1 == "internal/strconv.uint64pow10") = [("internal/strconv.uint64pow10", Lib.tabData .u64 tabZ1)] := by kernel_rfl
    rwa [e] at h)
  have htab2 : Lib.TabIs Tryd.prog W "math/bits.deBruijn64tab" .u8 tabZ2 := Lib.tabIs_of_head (rest := []) gT2 gTType2 Tryd.underlying151 Tryd.underlying5 cellsE2 cellsT2 (by
    have h := laidMet.filter (fun x => x.1 == "math/bits.deBruijn64tab") (show laidMet Tryd.prog Rows.hexaMovedRow.laid W from hL)
    have e : Rows.hexaMovedRow.laid.filter (fun x => x.1 == "math/bits.deBruijn64tab") = [("math/bits.deBruijn64tab", Lib.tabData .u8 tabZ2)] := by kernel_rfl
    rwa [e] at h)
  have hT : Go.Proofs.YtbcjdlljmhfhdaaDoor.Eng.Ext Go.Proofs.YtbcjdlljmhfhdaaDoor.Eng.tabM (Go.Proofs.YtbcjdlljmhfhdaaDoor.Eng.memOf W) := by
    intro b o v hv
    unfold Go.Proofs.YtbcjdlljmhfhdaaDoor.Eng.tabM at hv
    split at hv
    · rename_i hbo
      obtain ⟨rfl, ho⟩ := hbo
      obtain rfl := Option.some.inj hv
      show W.cell? _ = _
      rw [htab0.cell gT0 o ho, tabZ0_at o ho]
    · skip
      split at hv
      · rename_i hbo
        obtain ⟨rfl, ho⟩ := hbo
        obtain rfl := Option.some.inj hv
        show W.cell? _ = _
        rw [htab1.cell gT1 o ho, tabZ1_at o ho]
      · skip
        split at hv
        · rename_i hbo
          obtain ⟨rfl, ho⟩ := hbo
          obtain rfl := Option.some.inj hv
          show W.cell? _ = _
          rw [htab2.cell gT2 o ho, tabZ2_at o ho]
        · cases hv
  have hval : ∀ (j : Nat) t v, Tryd.f3.params[j]? = some t → args[j]? = some v → Value.okWide Tryd.prog W .any base t v := hval0
  have hW' := hW
  obtain ⟨p, q, hA0, hV, rfl, hfz, hnd⟩ := hW
  have hA : DataW.TrodAll enc Tryd.prog W 0 (fun _ => true) true Tryd.f3.params.toList args.toList ds p := hA0
  rw [Tryd.params3] at hA hval
  obtain ⟨v0, vs0, d0, ds0, p0, q0, hargs, rfl, rfl, h0, r0⟩ := trodAll_cons hA
  obtain ⟨v1, vs1, d1, ds1, p1, q1, rfl, rfl, rfl, h1, r1⟩ := trodAll_cons r0
  obtain ⟨v2, vs2, d2, ds2, p2, q2, rfl, rfl, rfl, h2, r2⟩ := trodAll_cons r1
  obtain ⟨v3, vs3, d3, ds3, p3, q3, rfl, rfl, rfl, h3, r3⟩ := trodAll_cons r2
  obtain ⟨v4, vs4, d4, ds4, p4, q4, rfl, rfl, rfl, h4, r4⟩ := trodAll_cons r3
  obtain ⟨rfl, rfl, rfl⟩ := trodAll_nil r4
  obtain rfl : args = #[v0, v1, v2, v3, v4] := by cases args; simp_all
  obtain ⟨rfl, rfl⟩ := trodVars_none hV
  obtain ⟨a0, rfl, rfl, rfl, w0⟩ := open_int Tryd.underlying22 (hval 0 22 v0 rfl rfl) h0
  obtain ⟨a1, rfl, rfl, rfl, w1⟩ := open_int Tryd.underlying23 (hval 1 23 v1 rfl rfl) h1
  obtain ⟨a2, rfl, rfl, rfl, w2⟩ := Go.ChangeMaps.open_string Tryd.underlying9 (hval 2 9 v2 rfl rfl) h2
  obtain ⟨a3, rfl, rfl, rfl, w3⟩ := Go.ChangeMaps.open_string Tryd.underlying9 (hval 3 9 v3 rfl rfl) h3
  obtain ⟨a4, rfl, rfl, rfl, w4⟩ := open_int Tryd.underlying3 (hval 4 3 v4 rfl rfl) h4
  have r0 := int_range w0
  have r1 := int_range w1
  have r2 : a2.size ≤ 140737488355328 := by
    have h := sized_string hsz0 (j := 2) (t := 9) (bytes := a2.data.toList) rfl rfl
    exact Nat.le_trans (by simpa using h) (by decide : reachBytes ≤ 140737488355328)
  have r3 : a3.size ≤ 140737488355328 := by
    have h := sized_string hsz0 (j := 3) (t := 9) (bytes := a3.data.toList) rfl rfl
    exact Nat.le_trans (by simpa using h) (by decide : reachBytes ≤ 140737488355328)
  have r4 := int_range w4
  clear hA0 hval0 hsz0
  obtain ⟨k, hk⟩ := Go.Proofs.YtbcjdlljmhfhdaaDoor.Eng.K.HexaMoved a0 a1 a2 a3 a4 r2 r3
  have hk := hk k (Nat.le_refl k)
  refine (Go.Proofs.YtbcjdlljmhfhdaaDoor.Eng.law_run (Go.Proofs.YtbcjdlljmhfhdaaDoor.Eng.cutplanelaw09_HexaMoved.ok k) hT (args := #[.int .u8 a0, .int .u8 a1, .string a2, .string a3, .int .i64 a4]) (ls := [.int .u8 a0, .int .u8 a1, .str a2, .str a3, .int .i64 a4]) (r := true) rfl ?_ hk rfl).mono fun e W' ⟨he, bel⟩ => ?_
  · intro i v hv
    rcases i with _ | i
    · obtain rfl := Option.some.inj hv
      exact ⟨rfl, int_inr w0⟩
    rcases i with _ | i
    · obtain rfl := Option.some.inj hv
      exact ⟨rfl, int_inr w1⟩
    rcases i with _ | i
    · obtain rfl := Option.some.inj hv
      exact rfl
    rcases i with _ | i
    · obtain rfl := Option.some.inj hv
      exact rfl
    rcases i with _ | i
    · obtain rfl := Option.some.inj hv
      exact ⟨rfl, int_inr w4⟩
    simp at hv
  subst he
  exact ⟨_, rfl, _, _, _, [], _, [], hW', trodAll_mk1 (shut_bool Tryd.underlying4 _), (trodAll_cons_mk (shut_int Tryd.underlying22 w0) (trodAll_cons_mk (shut_int Tryd.underlying23 w1) (trodAll_cons_mk (Go.ChangeMaps.shut_string Tryd.underlying9 w2) (trodAll_cons_mk (Go.ChangeMaps.shut_string Tryd.underlying9 w3) (trodAll_cons_mk (shut_int Tryd.underlying3 w4) trodAll_mk0))))), rfl, bel.frame _, fun h => by cases h⟩
theorem over : Rows.hexaMovedRow.holds Tryd.pinned (OpenSpec.ofChange Rows.hexaMovedSpec) :=
  OpenClaim.holds_of_cond 3 Tryd.f3 rfl rfl rfl rfl rfl rfl rfl ⟨rfl, rfl, rfl, rfl, rfl⟩ rfl rfl rfl rfl rfl (by kernel_rfl) Tryd.func3 (by kernel_rfl)
    (of_decide_eq_true (by kernel_rfl)) (by unfold Func.isWrapper; first | (rw [if_pos (by decide +kernel)]; kernel_rfl) | (rw [if_neg (by decide +kernel)]; exact ⟨rfl, rfl⟩))
    (fun os started H enc _ F0 => by rw [OpenClaim.pre_eq_preRow]; exact lifted os started H enc F0)
theorem saidRow : Rows.HexaMovedSaid := over
theorem proved : Rows.HexaMovedCardSaid :=
  Claim7.holds_tied_plain_at .later [] [.data, .data, .data] true (true, "bfeb50fbb8712cab7420b121c0228dcedffb4c206bec65432b16687c4d845801") false
    saidRow (fun _ h => by cases h) (by kernel_rfl) (fun _ h => by cases h) hexaMoved_row_tie rfl ⟨rfl, rfl⟩ (by kernel_rfl) rfl
    (fun f fn hf hfn => by
      obtain rfl : f = 3 := Option.some.inj ((show Tryd.prog.funcNamed Rows.hexaMovedRow.func = some 3 by kernel_rfl).symm.trans hf) |>.symm
      obtain rfl : fn = Tryd.f3 := (Option.some.inj (Tryd.func3.symm.trans hfn)).symm
      exact ⟨by kernel_rfl, fun j t ht => by
        rw [Tryd.params3] at ht
        have h3 : t = 3 ∨ t = 9 ∨ t = 22 ∨ t = 23 := by
          rcases j with _ | _ | _ | _ | _ | j
          · exact .inr (.inr (.inl ((Option.some.inj ht).symm)))
          · exact .inr (.inr (.inr ((Option.some.inj ht).symm)))
          · exact .inr (.inl ((Option.some.inj ht).symm))
          · exact .inr (.inl ((Option.some.inj ht).symm))
          · exact .inl ((Option.some.inj ht).symm)
          · cases ht
        rcases h3 with rfl | rfl | rfl | rfl
        · exact (show Tryd.prog.wantsStandIn 3 = false by kernel_rfl)
        · exact (show Tryd.prog.wantsStandIn 9 = false by kernel_rfl)
        · exact (show Tryd.prog.wantsStandIn 22 = false by kernel_rfl)
        · exact (show Tryd.prog.wantsStandIn 23 = false by kernel_rfl)⟩)
    (by kernel_rfl)
#print axioms proved
end Go.Proofs.YtbcjdlljmhfhdaaDoor.hexaMoved
namespace Go.Proofs.YtbcjdlljmhfhdaaDoor
/-- The card, under a short name, for the claim. -/
theorem hexaMoved_holds : Rows.HexaMovedCardSaid := hexaMoved.proved
end Go.Proofs.YtbcjdlljmhfhdaaDoor
