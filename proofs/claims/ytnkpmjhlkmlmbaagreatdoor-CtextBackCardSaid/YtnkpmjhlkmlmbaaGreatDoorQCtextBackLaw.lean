/- CtextBack: what is printed is parsed as the number, to the nearest even, noughts and infinite parts with their signs, a NaN as the canonical one; unlike numbers without a NaN have unlike texts (without the document's answer). (The statement as given; no condition of ours.) -/

import Derived.Test.YtnkpmjhlkmlmbaaGreatDoorQCtextBackG1
import Derived.Test.YtnkpmjhlkmlmbaaGreatDoorQCtextBackK2
import Derived.Test.YtnkpmjhlkmlmbaaGreatDoorQCtextBackLaw0
import Derived.Test.YtnkpmjhlkmlmbaaGreatDoorRows
import Derived.Test.YtnkpmjhlkmlmbaaGreatDoorCards
import Derived.Test.YtnkpmjhlkmlmbaaGreatDoorTie
import Derived.SevenTiedAt
import Derived.Deep.DeepHandedRow
import Derived.Lib.LaidTab
import Derived.WalkKit
import Derived.ProofKit
import Derived.OpenShut
import Derived.ChangeOld
import Derived.Below
import Derived.SizedLaws
import Derived.LaidSub
import Derived.Lay
set_option linter.unusedVariables false
set_option linter.unusedSimpArgs false
namespace Go.Proofs.YtnkpmjhlkmlmbaaGreatDoor.ctextBack
open Go.ChangeShapes Go.WideShapes Go.ChangeAt Go.RowKit
theorem own : ownKnob Tryz.prog.godebug = none := by kernel_rfl
theorem laidOut : laidOutB Tryz.prog = true := by kernel_rfl
theorem int_inr {k : IntKind} {n : Int} (h : (Lit.int k n).wf = true) : Go.Proofs.YtnkpmjhlkmlmbaaGreatDoor.Eng.inr k n := by
 intro hs
 cases k <;> first | (cases hs; done) | (simp [Lit.wf, IntKind.min, IntKind.max, IntKind.signed, IntKind.bits] at h; omega)
theorem int_range {k : IntKind} {n : Int} (h : (Lit.int k n).wf = true) : k.min ≤ n ∧ n ≤ k.max := by
 simpa [Lit.wf] using h
theorem gT0 : Tryz.prog.globalNamed "math/bits.deBruijn32tab" = some 5 := by kernel_rfl
theorem gTType0 : (Tryz.prog.globals[5]?).map (·.type) = some 283 := by kernel_rfl
theorem cellsE0 : Tryz.prog.cellsOf 5 = 1 := by kernel_rfl
theorem cellsT0 : Tryz.prog.cellsOf 283 = 32 := by kernel_rfl
def tabZ0 : List Int := [0, 1, 28, 2, 29, 14, 24, 3, 30, 22, 20, 15, 25, 17, 4, 8, 31, 27, 13, 23, 21, 19, 16, 7, 26, 12, 18, 6, 11, 5, 10, 9]
theorem tabZ0_at : ∀ j, j < 32 → tabZ0.getD j 0 = ((Lib.deBruijn32tab.getD j 0 : Nat) : Int) := by decide +kernel
theorem gT1 : Tryz.prog.globalNamed "internal/strconv.uint64pow10" = some 7 := by kernel_rfl
theorem gTType1 : (Tryz.prog.globals[7]?).map (·.type) = some 300 := by kernel_rfl
theorem cellsE1 : Tryz.prog.cellsOf 24 = 1 := by kernel_rfl
theorem cellsT1 : Tryz.prog.cellsOf 300 = 20 := by kernel_rfl
def tabZ1 : List Int := [1, 10, 100, 1000, 10000, 100000, 1000000, 10000000, 100000000, 1000000000, 10000000000, 100000000000, 1000000000000, 10000000000000, 100000000000000, 1000000000000000, 10000000000000000, 100000000000000000, 1000000000000000000, 10000000000000000000]
theorem tabZ1_at : ∀ j, j < 20 → tabZ1.getD j 0 = ((10 ^ j : Nat) : Int) := by decide +kernel
theorem gT2 : Tryz.prog.globalNamed "math/bits.deBruijn64tab" = some 8 := by kernel_rfl
theorem gTType2 : (Tryz.prog.globals[8]?).map (·.type) = some 302 := by kernel_rfl
theorem cellsE2 : Tryz.prog.cellsOf 5 = 1 := by kernel_rfl
theorem cellsT2 : Tryz.prog.cellsOf 302 = 64 := by kernel_rfl
def tabZ2 : List Int := [0, 1, 56, 2, 57, 49, 28, 3, 61, 58, 42, 50, 38, 29, 17, 4, 62, 47, 59, 36, 45, 43, 51, 22, 53, 39, 33, 30, 24, 18, 12, 5, 63, 55, 48, 27, 60, 41, 37, 16, 46, 35, 44, 21, 52, 32, 23, 11, 54, 26, 40, 15, 34, 20, 31, 10, 25, 14, 19, 9, 13, 8, 7, 6]
theorem tabZ2_at : ∀ j, j < 64 → tabZ2.getD j 0 = ((Lib.deBruijn64tab.getD j 0 : Nat) : Int) := by decide +kernel
theorem pT58 : Go.Proofs.YtnkpmjhlkmlmbaaGreatDoor.Eng.qc7 Tryz.prog 58 .u64 .u64 = true := by kernel_rfl
noncomputable def laidWorld (os : Os) : World := World.laidAll Tryz.prog os Rows.ctextBackRow.laid
theorem laidWorld_os (os : Os) : (laidWorld os).os = os := World.laidAll_os _ _ _
theorem laid_met (os : Os) (args : Array Value) : laidMet Tryz.prog Rows.ctextBackRow.laid ((laidWorld os).forCall (fun _ _ => 0) ⟨#[], args, []⟩).memory := laidMet_laidAll _ (by kernel_rfl) (by kernel_rfl)
theorem witness_row (os : Os) {H : Type} (enc : TypeId × Value → H) :
  (OpenSpec.ofChange Rows.ctextBackSpec).preRow enc Tryz.prog Tryz.f13 Rows.ctextBackRow.domain false Rows.ctextBackRow.laid ((laidWorld os).forCall (fun _ _ => 0) ⟨#[], #[.int .u8 0, .agg #[.int .u64 0, .int .u64 0], .agg #[.int .u64 0, .int .u64 0]], []⟩).memory #[.int .u8 0, .agg #[.int .u64 0, .int .u64 0], .agg #[.int .u64 0, .int .u64 0]] := by
 have hw : (DataW.whole enc Tryz.prog ((laidWorld os).forCall (fun _ _ => 0) ⟨#[], #[.int .u8 0, .agg #[.int .u64 0, .int .u64 0], .agg #[.int .u64 0, .int .u64 0]], []⟩).memory Tryz.f13.params.toList (OpenSpec.ofChange Rows.ctextBackSpec).vars false (#[.int .u8 0, .agg #[.int .u64 0, .int .u64 0], .agg #[.int .u64 0, .int .u64 0]] : Array Value).toList 8).map (fun x => (x.1, x.2.1)) =
   some ([.lit (.int .u8 0), .agg [.lit (.int .u64 0), .lit (.int .u64 0)], .agg [.lit (.int .u64 0), .lit (.int .u64 0)]], []) := by kernel_rfl
 obtain ⟨⟨x1, x2, x3⟩, hx, hx1⟩ := Option.map_eq_some_iff.1 hw
 simp only [Prod.mk.injEq] at hx1
 obtain ⟨rfl, rfl⟩ := hx1
 exact OpenSpec.preRow_of_cond 8 hx (by kernel_rfl) (fun k hk => by cases hk) (by kernel_rfl) (laid_met os _)
set_option maxRecDepth 100000 in
theorem lifted (os : Os) (started : os.Started) (H : Type) (enc : TypeId × Value → H) (F : Stop.Interp) :
  ReturnsInHanded {} Tryz.checked os 13 .any ((OpenSpec.ofChange Rows.ctextBackSpec).preRow enc Tryz.prog Tryz.f13 Rows.ctextBackRow.domain false Rows.ctextBackRow.laid) (((OpenSpec.ofChange Rows.ctextBackSpec).at F).post enc Tryz.prog Tryz.f13 false true false false) := by
 refine returnsInHanded_of_row (C := Tryz.checked) (s := (OpenSpec.ofChange Rows.ctextBackSpec)) own started (by kernel_rfl) Tryz.func13
  (witness_row_at (enc := enc) (C := Tryz.checked) false (laidWorld os) #[.int .u8 0, .agg #[.int .u64 0, .int .u64 0], .agg #[.int .u64 0, .int .u64 0]] (laidWorld_os os) (by kernel_rfl) (by kernel_rfl) (by kernel_rfl) (witness_row os enc)) ?_
 intro W base args ds gs before hval0 hW _ _ hsz0 hL _ _
 have htab0 : Lib.TabIs Tryz.prog W "math/bits.deBruijn32tab" .u8 tabZ0 := Lib.tabIs_of_head (rest := []) gT0 gTType0 Tryz.underlying283 Tryz.underlying5 cellsE0 cellsT0 (by
  have h := laidMet.filter (fun x => x.1 == "math/bits.deBruijn32tab") (show laidMet Tryz.prog Rows.ctextBackRow.laid W from hL)
  have e : Rows.ctextBackRow.laid.filter (fun x => x.1 == "math/bits.deBruijn32tab") = [("math/bits.deBruijn32tab", Lib.tabData .u8 tabZ0)] := by kernel_rfl
  rwa [e] at h)
 have htab1 : Lib.TabIs Tryz.prog W "internal/strconv.uint64pow10" .u64 tabZ1 := Lib.tabIs_of_head (rest := []) gT1 gTType1 Tryz.underlying300 Tryz.underlying24 cellsE1 cellsT1 (by
  have h := laidMet.filter (fun x => x.1 == "internal/strconv.uint64pow10") (show laidMet Tryz.prog Rows.ctextBackRow.laid W from hL)
  have e : Rows.ctextBackRow.laid.filter (fun x => x.1 == "internal/strconv.uint64pow10") = [("internal/strconv.uint64pow10", Lib.tabData .u64 tabZ1)] := by kernel_rfl
  rwa [e] at h)
 have htab2 : Lib.TabIs Tryz.prog W "math/bits.deBruijn64tab" .u8 tabZ2 := Lib.tabIs_of_head (rest := []) gT2 gTType2 Tryz.underlying302 Tryz.underlying5 cellsE2 cellsT2 (by
  have h := laidMet.filter (fun x => x.1 == "math/bits.deBruijn64tab") (show laidMet Tryz.prog Rows.ctextBackRow.laid W from hL)
  have e : Rows.ctextBackRow.laid.filter (fun x => x.1 == "math/bits.deBruijn64tab") = [("math/bits.deBruijn64tab", Lib.tabData .u8 tabZ2)] := by kernel_rfl
  rwa [e] at h)
 have hT : Go.Proofs.YtnkpmjhlkmlmbaaGreatDoor.Eng.Ext Go.Proofs.YtnkpmjhlkmlmbaaGreatDoor.Eng.zax (Go.Proofs.YtnkpmjhlkmlmbaaGreatDoor.Eng.qc3 W) := by
  intro b o v hv
  unfold Go.Proofs.YtnkpmjhlkmlmbaaGreatDoor.Eng.zax at hv
  split at hv
  ·rename_i hbo
   obtain ⟨rfl, ho⟩ := hbo
   obtain rfl := Option.some.inj hv
   show W.cell? _ = _
   rw [htab0.cell gT0 o ho, tabZ0_at o ho]
  ·skip
   split at hv
   ·rename_i hbo
    obtain ⟨rfl, ho⟩ := hbo
    obtain rfl := Option.some.inj hv
    show W.cell? _ = _
    rw [htab1.cell gT1 o ho, tabZ1_at o ho]
   ·skip
    split at hv
    ·rename_i hbo
     obtain ⟨rfl, ho⟩ := hbo
     obtain rfl := Option.some.inj hv
     show W.cell? _ = _
     rw [htab2.cell gT2 o ho, tabZ2_at o ho]
    ·cases hv
 have hval : ∀ (j : Nat) t v, Tryz.f13.params[j]? = some t → args[j]? = some v → Value.okWide Tryz.prog W .any base t v := hval0
 have hW' := hW
 obtain ⟨p, q, hA0, hV, rfl, hfz, hnd⟩ := hW
 have hA : DataW.TrodAll enc Tryz.prog W 0 (fun _ => true) true Tryz.f13.params.toList args.toList ds p := hA0
 rw [Tryz.params13] at hA hval
 obtain ⟨v0, vs0, d0, ds0, p0, q0, hargs, rfl, rfl, h0, r0⟩ := trodAll_cons hA
 obtain ⟨v1, vs1, d1, ds1, p1, q1, rfl, rfl, rfl, h1, r1⟩ := trodAll_cons r0
 obtain ⟨v2, vs2, d2, ds2, p2, q2, rfl, rfl, rfl, h2, r2⟩ := trodAll_cons r1
 obtain ⟨rfl, rfl, rfl⟩ := trodAll_nil r2
 obtain rfl : args = #[v0, v1, v2] := by cases args; simp_all
 obtain ⟨rfl, rfl⟩ := trodVars_none hV
 obtain ⟨a0, rfl, rfl, rfl, w0⟩ := open_int Tryz.underlying22 (hval 0 22 v0 rfl rfl) h0
 obtain ⟨a1, b1, rfl, rfl, rfl, w1, u1⟩ := Go.Proofs.YtnkpmjhlkmlmbaaGreatDoor.Eng.qib pT58 (hval 1 58 v1 rfl rfl) h1
 obtain ⟨a2, b2, rfl, rfl, rfl, w2, u2⟩ := Go.Proofs.YtnkpmjhlkmlmbaaGreatDoor.Eng.qib pT58 (hval 2 58 v2 rfl rfl) h2
 have r0 := int_range w0
 have r1 := int_range w1
 have s1 := int_range u1
 have r2 := int_range w2
 have s2 := int_range u2
 clear hA0 hval0 hsz0
 obtain ⟨k, hk⟩ := Go.Proofs.YtnkpmjhlkmlmbaaGreatDoor.Eng.K.zkt a0 a1 b1 a2 b2 r1 s1 r2 s2
 have hk := hk k (Nat.le_refl k)
 refine (Go.Proofs.YtnkpmjhlkmlmbaaGreatDoor.Eng.qh9 (Go.Proofs.YtnkpmjhlkmlmbaaGreatDoor.Eng.zd0.ok k) hT (args := #[.int .u8 a0, .agg #[.int .u64 a1, .int .u64 b1], .agg #[.int .u64 a2, .int .u64 b2]]) (ls := [.int .u8 a0, .int .u64 a1, .int .u64 b1, .int .u64 a2, .int .u64 b2]) (r := true) rfl ?_ hk rfl).mono fun e W' ⟨he, bel⟩ => ?_
 ·intro i v hv
  rcases i with _ | i
  ·obtain rfl := Option.some.inj hv
   exact ⟨rfl, int_inr w0⟩
  rcases i with _ | i
  ·obtain rfl := Option.some.inj hv
   exact Go.Proofs.YtnkpmjhlkmlmbaaGreatDoor.Eng.qh0 (int_inr w1) (int_inr u1)
  rcases i with _ | i
  ·obtain rfl := Option.some.inj hv
   exact Go.Proofs.YtnkpmjhlkmlmbaaGreatDoor.Eng.qh0 (int_inr w2) (int_inr u2)
  simp at hv
 subst he
 exact ⟨_, rfl, _, _, _, [], _, [], hW', trodAll_mk1 (shut_bool Tryz.underlying4 _), (trodAll_cons_mk (shut_int Tryz.underlying22 w0) (trodAll_cons_mk (Go.Proofs.YtnkpmjhlkmlmbaaGreatDoor.Eng.qie pT58 w1 u1) (trodAll_cons_mk (Go.Proofs.YtnkpmjhlkmlmbaaGreatDoor.Eng.qie pT58 w2 u2) trodAll_mk0))), rfl, bel.frame _, fun h => by cases h⟩
theorem over : Rows.ctextBackRow.holds Tryz.pinned (OpenSpec.ofChange Rows.ctextBackSpec) :=
 OpenClaim.holds_of_cond 13 Tryz.f13 rfl rfl rfl rfl rfl rfl rfl ⟨rfl, rfl, rfl, rfl, rfl⟩ rfl rfl rfl rfl rfl (by kernel_rfl) Tryz.func13 closed (of_decide_eq_true inst) wrap
  (fun os started H enc _ F0 => by rw [OpenClaim.pre_eq_preRow]; exact lifted os started H enc F0)
theorem saidRow : Rows.CtextBackSaid := over
theorem proved : Rows.CtextBackCardSaid :=
 Claim7.holds_tied_plain_at .later [] [.data, .data, .data, .data, .sentinel, .sentinel, .pinned] true (true, "57d011c10f139844d8cef4773dbd89071f0b1ebf04d4dbd79f3c1d77eb9c6c40") true
  saidRow (fun _ h => by cases h) wfText (fun _ h => by cases h) ctextBack_row_tie rfl ⟨rfl, rfl⟩ mainOk rfl
  (fun f fn hf hfn => by
   obtain rfl : f = 13 := Option.some.inj (nameOk.symm.trans hf) |>.symm
   obtain rfl : fn = Tryz.f13 := (Option.some.inj (Tryz.func13.symm.trans hfn)).symm
   exact ⟨looksOk, wants⟩)
  goesOk
#print axioms proved
end Go.Proofs.YtnkpmjhlkmlmbaaGreatDoor.ctextBack
namespace Go.Proofs.YtnkpmjhlkmlmbaaGreatDoor
theorem ctextBack_holds : Rows.CtextBackCardSaid := ctextBack.proved
end Go.Proofs.YtnkpmjhlkmlmbaaGreatDoor
