import Derived.Test.YtioialhbjmnndaaGreatDoorQGaugePartsF1
import Derived.Tactics
import Derived.BigQuiet
import Derived.WalkKit
import Derived.OwnWalk
import Derived.Lib.TrailingZeros
set_option linter.unusedVariables false
set_option linter.unusedSimpArgs false
namespace Go.Proofs.YtioialhbjmnndaaGreatDoor.Eng
open Go.RowKit Go.Proofs Go
set_option maxRecDepth 100000
def zdC (w : World) : Prop := ∀ j, j < 32 → w.cell? ⟨0, j, none⟩ = some (.int .u8 (Lib.deBruijn32tab.getD j 0))
theorem zhk (x k idx : Nat) (w : World) (hx0 : ((x : Int) == 0) = false)
  (key : bits BinOp.and IntKind.u32 (x : Int) (-(x : Int) % 4294967296) * 125613361 % 4294967296 / 134217728 = (idx : Int))
  (hi : idx < 32) (hk : k < 32) (hcell : w.cell? ⟨0, idx, none⟩ = some (.int .u8 k)) :
  Calls Tryz.prog 141 #[.int .u32 x] w fun e w' => e = .returned (.int .i64 k) ∧ w' = w := by
 go_enter Tryz.func141, Tryz.ntmps141
 go_wp2_with (simp only [key])
 go_ret
 exact ⟨rfl, rfl⟩
theorem zhn (w : World) : Calls Tryz.prog 141 #[.int .u32 0] w fun e w' => e = .returned (.int .i64 32) ∧ w' = w := by
 go_enter Tryz.func141, Tryz.ntmps141
 go_wp2
 go_ret
 exact ⟨rfl, rfl⟩
theorem zfD (a b : Nat) (ha : a < 4294967296) (hb : b < 4294967296) : bits .and .u32 (a : Int) (b : Int) = ((a &&& b : Nat) : Int) := by
 have hx : a &&& b < 2 ^ 32 := Nat.and_lt_two_pow _ (by omega)
 have h1 : (BitVec.ofInt 32 (a : Int)).toNat = a := by
  rw [BitVec.ofInt_natCast, BitVec.toNat_ofNat]; exact Nat.mod_eq_of_lt (by omega)
 have h2 : (BitVec.ofInt 32 (b : Int)).toNat = b := by
  rw [BitVec.ofInt_natCast, BitVec.toNat_ofNat]; exact Nat.mod_eq_of_lt (by omega)
 show IntKind.u32.wrap ((BitVec.ofInt 32 (a : Int) &&& BitVec.ofInt 32 (b : Int)).toNat : Int) = _
 have h3 : ∀ n : Int, IntKind.u32.wrap n = n % 4294967296 := fun n => by simp [IntKind.wrap, IntKind.signed, IntKind.bits]
 rw [BitVec.toNat_and, h1, h2, h3]
 omega
theorem zhm (x a : Nat) (hx : x < 4294967296) (hx0 : x ≠ 0) (hlow : x &&& (4294967296 - x) = a) :
  bits BinOp.and IntKind.u32 (x : Int) (-(x : Int) % 4294967296) * 125613361 % 4294967296 / 134217728 = ((a * 125613361 % 4294967296 / 134217728 : Nat) : Int) := by
 have e1 : -(x : Int) % 4294967296 = ((4294967296 - x : Nat) : Int) := by omega
 rw [e1, zfD x _ hx (by omega), hlow]
 omega
theorem zhj (a0 r : Int) (w : World) (hT : zdC w) (h : zac.f a0 = some r) :
  Calls Tryz.prog 141 #[.int .u32 a0] w fun e w' => e = .returned (.int .i64 r) ∧ w' = w := by
 unfold zac.f at h
 split at h
 case isFalse => cases h
 rename_i hx
 obtain ⟨x, rfl⟩ := Int.eq_ofNat_of_zero_le hx.1
 obtain rfl := Option.some.inj h
 rw [Int.toNat_natCast]
 by_cases hx0 : x = 0
 ·subst hx0
  exact zhn w
 ·obtain ⟨hlow, hk⟩ := Lib.lowest_bit 32 x hx0 (by omega)
  obtain ⟨hi, htab⟩ := Lib.deBruijn32_at _ hk
  have hcell := hT _ hi
  rw [htab] at hcell
  exact zhk x _ _ w (by simp; omega) (zhm x _ (by omega) hx0 hlow) hi hk hcell
theorem zac.ok : ∀ k, qK Tryz.prog za6 141 (zac.F k) := by
 intro k
 refine ⟨⟨Tryz.f141, qdH Tryz.f141, Tryz.func141, by kernel_rfl, by kernel_rfl⟩, rfl, rfl, fun M φ w args ls r hgl hc hr => ?_⟩
 have hlf := qap hr
 obtain ⟨x, rfl⟩ : ∃ x, ls = [.int .u32 x] := by
  clear hc hr
  obtain ⟨y, rfl⟩ := List.length_eq_one_iff.1 (qaq hlf).1
  simp only [zac.F, qo, qD, qf, qA, Bool.and_true, List.append_nil] at hlf
  cases y <;> first | (cases hlf; done) | exact ⟨_, by rw [← qB hlf]⟩
 have hr : zac.f x = some r := hr
 have ha : args = #[.int .u32 x] := by
  have hs := hc.size
  have hs : args.size = 1 := hs
  have h1 := (hc.args 0 args[0] (by simp [hs])).1
  apply Array.ext
  ·simp [hs]
  ·intro i h1' h2'
   have : i = 0 := by simp at h2'; omega
   subst this
   exact h1
 have hT : zdC w := fun j hj => hc.rel.holds 0 j _ (hgl 0 j _ (by unfold za6; rw [if_pos ⟨rfl, hj⟩]))
 subst ha
 refine (zhj x r w hT hr).mono fun e w' h => ⟨_, h.1, rfl, M, φ, ⟨rfl, qbO _⟩, ?_, ?_, qp.refl φ⟩
 ·rw [h.2]; exact hc.rel
 ·rw [h.2]; exact Stp.refl M φ _ w
open Go.RowKit Go.Proofs
theorem zfr : TOk Tryz.prog TT := qid (by kernel_rfl)
theorem zfZ : Tryz.prog.follows .mixedOrders = true := by kernel_rfl
abbrev Fo (n : Nat) (S : Sig) (f : Nat → Fn (qo S.ps) (Option S.R)) : Prop := ∀ k, qK Tryz.prog za6 n ⟨S, f k⟩
theorem fo {n : Nat} {ps rs : List Kx} {f : Nat → Fn (qo ps) (Option (sg ps rs).R)} {G : Nat → List (Nat × List Fun)} {fn : Func}
  (nt : Nat) (hf : Tryz.prog.funcs[n]? = some fn) (gs : GP Tryz.prog za6 G) (ds : List (List Bool) := []) (H : Nat → List (qaA (sg ps rs).R) := fun _ => []) (frz : List Nat := [])
  (hname : (fn.name == "runtime.NumGoroutine") = false := by kernel_rfl) (hbody : fn.body = some (qdH fn) := by kernel_rfl) (hnt : nt = fn.ntmps := by kernel_rfl) (hr : rs.all qah = true := by kernel_rfl)
  (hck : qb7 (qaO (sg ps rs)) (zc ds (H 0)) = true := by kernel_rfl)
  (h0 : qbW (H 0) := by ((repeat (refine ⟨by ((repeat (intro _)); show _ = _; kernel_rfl), ?_⟩)); trivial))
  (hs : ∀ k, qb3 (mkC TT za6 G nt (zc ds (H 0)) frz k) (sg ps rs) (qdH fn) fn.results.toList (qaL (H k)) (zc ds (H 0)) (H (k + 1)) := by (intro k; (repeat (refine ⟨rfl, by ((repeat (intro _)); show _ = _; kernel_rfl), ?_⟩)); trivial))
  (he : ∀ k, qW (qo ps) (fun ls y => qep (mkC TT za6 G nt (zc ds (H 0)) frz k) (sg ps rs) (qdH fn) fn.results.toList (qaL (H k)) ls = y) (f k) := by ((repeat (intro _)); show _ = _; kernel_rfl)) : Fo n (sg ps rs) f :=
 qK.mk' zfr zfZ nt hf gs ds H frz hname hbody hnt hr hck h0 hs he
theorem zbx.ok : Fo 144 (sg [.lf (.i .u8)] [.ag [.i .i64, .i .i64, .i .u64], .lf (.b)]) fun _ => zbx.f := fo 12 Tryz.func144 .z
theorem zU.ok : Fo 120 (sg [.lf (.i .u8), .lf (.is .u64)] [.ag [.i .i64, .i .i64, .i .u64], .lf (.i .i64)]) zU.f := fo 35 Tryz.func120 (.o zbx.ok .z) [[tt, tt, tt, ff, tt, ff]] fun k => [⟨[(4, .bx [.i .i64, .i .i64, .i .u64]), (6, .bx [.i .i64, .i .i64, .i .u64]), (18, .lf (.is .u64)), (19, .lf (.i .i64)), (20, .lf (.i .i64))], zU.l0 k⟩]
theorem zaX.ok : Fo 126 (sg [.lf (.i .u8), .lf (.i .u64)] [.lf (.i .i64)]) zaX.f := fo 15 Tryz.func126 (.o zU.ok .z)
theorem za3.ok : Fo 95 (sg [.lf (.i .u8), .ag [.i .u64, .i .u64]] [.lf (.i .i64)]) za3.f := fo 17 Tryz.func95 (.o zaX.ok .z)
theorem zby.ok : Fo 145 (sg [.ag [.i .i64, .i .i64, .i .u64]] [.lf (.i .u64)]) fun _ => zby.f := fo 9 Tryz.func145 .z
theorem za8.ok : Fo 121 (sg [.ag [.i .i64, .i .i64, .i .u64], .lf (.i .u64)] [.lf (.i .u8)]) fun _ => za8.f := fo 29 Tryz.func121 (.o zby.ok .z)
theorem zaE.ok : Fo 99 (sg [.lf (.i .u8), .lf (.i .u64)] [.lf (.i .u8), .lf (.i .i64)]) zaE.f := fo 21 Tryz.func99 (.o zU.ok (.o za8.ok .z))
theorem zz.ok : Fo 57 (sg [.lf (.i .u8), .ag [.i .u64, .i .u64]] [.lf (.i .u8), .lf (.i .i64)]) zz.f := fo 51 Tryz.func57 (.o zaE.ok .z) [[tt, tt, tt, tt, ff, ff, tt, tt, tt], [tt, tt, tt, tt, ff, ff, tt, tt, tt, tt, tt]] fun k => [⟨[(6, .lf (.i .u8)), (8, .lf (.i .u8)), (30, .lf (.b))], zz.j1 k⟩, ⟨[(6, .lf (.i .u8)), (8, .lf (.i .u8)), (37, .lf (.b))], zz.j2 k⟩]
theorem zu.ok : Fo 53 (sg [.lf (.i .u8), .lf (.rw [.i .u64, .i .u64])] [.lf (.i .i64)]) zu.f := fo 40 Tryz.func53 (.o zz.ok (.o za3.ok .z)) [[tt, ff, tt, ff], [tt, tt, ff, tt, ff]] fun k => [⟨[(0, .lf (.i .u8)), (1, .lf (.rw [.i .u64, .i .u64])), (12, .lf (.rw [.i .u64, .i .u64])), (13, .lf (.i .i64)), (14, .lf (.i .i64))], zu.l0 k⟩, ⟨[(0, .lf (.i .u8)), (25, .lf (.rw [.i .u64, .i .u64])), (26, .lf (.i .i64)), (27, .lf (.i .i64))], zu.l1 k⟩]
theorem zbV.ok : Fo 88 (sg [.lf (.i .u8), .lf (.i .u64)] [.ag [.i .i64, .i .i64, .i .u64], .lf (.i .i64)]) zbV.f := fo 25 Tryz.func88 (.o zU.ok (.o za8.ok .z))
theorem zbX.ok : Fo 89 (sg [.ag [.i .i64, .i .i64, .i .u64], .lf (.i .u64)] [.ag [.b, .i .i64, .i .u64]]) fun _ => zbX.f := fo 27 Tryz.func89 .z
theorem zl.ok : Fo 117 (sg [.ow .u32] [.ow .u32]) zl.f := fo 21 Tryz.func117 .z [[tt, ff, ff]] fun k => [⟨[(0, .ow .u32)], zl.l0 k⟩]
theorem zl.ok1 : Fo 117 (sg [.lf (.is .u32)] [.lf (.is .u32)]) zl.f := fo 21 Tryz.func117 .z [[tt, ff, ff]] fun k => [⟨[(0, .lf (.is .u32))], zl.l0 k⟩]
theorem zal.ok : Fo 74 (sg [.lf (.i .u64)] [.lf (.is .u32)]) zal.f := fo 10 Tryz.func74 (.t zl.ok zl.ok1 .z)
theorem zbW.ok : Fo 90 (sg [.ag [.i .i64, .i .i64, .i .u64]] [.lf (.i .i64)]) fun _ => zbW.f := fo 10 Tryz.func90 .z
theorem z3.ok : Fo 113 (sg [.lf (.is .u32)] [.lf (.b)]) fun _ => z3.f := fo 20 Tryz.func113 .z
theorem zW.ok : Fo 115 (sg [.lf (.is .u32)] [.lf (.i .i64)]) zW.f := fo 23 Tryz.func115 (.o z3.ok (.o zac.ok .z)) [[tt, tt, ff, tt, ff]] fun k => [⟨[(8, .lf (.is .u32)), (9, .lf (.i .i64)), (10, .lf (.i .i64))], zW.l0 k⟩]
theorem zag.ok : Fo 142 (sg [.lf (.is .u32), .lf (.i .i64)] [.lf (.is .u32)]) zag.f := fo 60 Tryz.func142 (.t zl.ok zl.ok1 .z) [[tt, tt, tt, tt, tt, ff, tt, ff]] fun k => [⟨[(0, .lf (.is .u32)), (5, .lf (.i .i64)), (6, .ow .u32), (23, .lf (.is .u32)), (24, .lf (.i .i64)), (25, .lf (.i .i64))], zag.l0 k⟩]
theorem zR.ok : Fo 149 (sg [.lf (.i .u32)] [.lf (.i .i64)]) zR.f := fo 19 Tryz.func149 .z [[tt, tt], [tt, tt, tt]] fun k => [⟨[(0, .lf (.i .u32)), (2, .lf (.i .i64))], zR.j0 k⟩, ⟨[(0, .lf (.i .u32)), (2, .lf (.i .i64))], zR.j1 k⟩]
theorem zZ.ok : Fo 124 (sg [.lf (.is .u32)] [.lf (.i .i64)]) zZ.f := fo 23 Tryz.func124 (.o z3.ok (.o zR.ok .z))
theorem zam.ok : Fo 143 (sg [.lf (.is .u32), .lf (.i .i64)] [.ow .u32]) zam.f := fo 50 Tryz.func143 (.t zl.ok zl.ok1 .z) [[tt, tt, tt, tt, ff, tt, ff]] fun k => [⟨[(5, .ow .u32), (6, .lf (.i .i64)), (7, .lf (.i .u32)), (24, .lf (.is .u32)), (25, .lf (.i .i64)), (26, .lf (.i .i64))], zam.l0 k⟩]
theorem zX.ok : Fo 116 (sg [.lf (.is .u32), .lf (.i .i64)] [.lf (.is .u32), .lf (.b), .lf (.i .i64)]) zX.f := fo 39 Tryz.func116 (.o z3.ok (.o zW.ok (.o zZ.ok (.o zag.ok (.o zam.ok .z)))))
theorem zT.ok : Fo 73 (sg [.lf (.b), .lf (.is .u32), .lf (.i .i64)] [.ag [.b, .is .u32, .i .i64], .lf (.i .i64)]) zT.f := fo 47 Tryz.func73 (.o z3.ok (.o zW.ok (.o zX.ok .z)))
theorem zao.ok : Fo 96 (sg [.lf (.i .u8), .lf (.i .u64)] [.ag [.b, .is .u32, .i .i64], .lf (.i .i64)]) zao.f := fo 47 Tryz.func96 (.o zT.ok (.o zal.ok (.o zbV.ok (.o zbX.ok (.o zbW.ok .z))))) [[tt, tt, tt, tt, tt]] fun k => [⟨[(4, .bx [.b, .is .u32, .i .i64]), (6, .bx [.i .i64, .i .i64, .i .u64]), (8, .bx [.b, .i .i64, .i .u64])], zao.j1 k⟩]
theorem zav.ok : Fo 54 (sg [.lf (.i .u8), .ag [.i .u64, .i .u64]] [.ag [.b, .is .u32, .i .i64, .b, .is .u32, .i .i64]]) zav.f := fo 26 Tryz.func54 (.o zao.ok .z)
theorem zb9.ok : Fo 114 (sg [.lf (.i .i64)] [.lf (.b)]) fun _ => zb9.f := fo 9 Tryz.func114 .z
theorem zO.ok : Fo 71 (sg [.ag [.b, .is .u32, .i .i64]] [.lf (.b)]) fun _ => zO.f := fo 30 Tryz.func71 (.o z3.ok (.o zb9.ok .z))
theorem zP.ok : Fo 93 (sg [.lf (.rw [.b, .is .u32, .i .i64])] [.lf (.b)]) zP.f := fo 15 Tryz.func93 (.o zO.ok .z) [[tt, ff, tt, ff]] fun k => [⟨[(5, .lf (.rw [.b, .is .u32, .i .i64])), (6, .lf (.i .i64)), (7, .lf (.i .i64))], zP.l0 k⟩]
theorem zQ.ok : Fo 146 (sg [.lf (.rw [.is .u32])] [.lf (.b)]) zQ.f := fo 15 Tryz.func146 (.o z3.ok .z) [[tt, ff, tt, ff]] fun k => [⟨[(5, .lf (.rw [.is .u32])), (6, .lf (.i .i64)), (7, .lf (.i .i64))], zQ.l0 k⟩]
theorem zy.ok : Fo 148 (sg [.lf (.is .u32), .lf (.is .u32)] [.lf (.is .u32)]) zy.f := fo 68 Tryz.func148 (.t zl.ok zl.ok1 .z) [[tt, tt, ff, tt, ff], [tt, tt, ff, tt, ff, ff, tt, tt, ff, ff, tt, tt, ff, tt, ff]] fun k => [⟨[(1, .lf (.is .u32)), (5, .ow .u32), (18, .lf (.is .u32)), (19, .lf (.i .i64)), (20, .lf (.i .i64))], zy.l0 k⟩, ⟨[(1, .lf (.is .u32)), (5, .ow .u32), (6, .lf (.i .i64)), (7, .lf (.i .u32)), (8, .lf (.i .u64)), (18, .lf (.is .u32)), (19, .lf (.i .i64)), (20, .lf (.i .i64)), (25, .lf (.is .u32)), (26, .lf (.i .i64)), (27, .lf (.i .i64))], zy.l1 k⟩]
theorem z9.ok : Fo 147 (sg [.ow .u32] [.ow .u32, .lf (.i .i64)]) fun _ => z9.f := fo 8 Tryz.func147 .z
theorem z9.ok1 : Fo 147 (sg [.lf (.is .u32)] [.lf (.is .u32), .lf (.i .i64)]) fun _ => z9.f := fo 8 Tryz.func147 .z
theorem zbO.ok : Fo 122 (sg [.lf (.is .u32), .lf (.is .u32)] [.lf (.is .u32), .lf (.i .i64)]) zbO.f := fo 34 Tryz.func122 (.o zQ.ok (.t z9.ok z9.ok1 (.o zy.ok .z)))
theorem zbk.ok : Fo 92 (sg [.ag [.b, .is .u32, .i .i64], .ag [.b, .is .u32, .i .i64]] [.ag [.b, .is .u32, .i .i64], .lf (.i .i64)]) zbk.f := fo 40 Tryz.func92 (.o zT.ok (.o zP.ok (.o zbO.ok .z)))
theorem zA.ok : Fo 46 (sg [.ag [.b, .is .u32, .i .i64], .ag [.b, .is .u32, .i .i64]] [.ag [.b, .is .u32, .i .i64]]) zA.f := fo 14 Tryz.func46 (.o zbk.ok .z)
theorem zaA.ok : Fo 91 (sg [.ag [.b, .is .u32, .i .i64]] [.ag [.b, .is .u32, .i .i64]]) fun _ => zaA.f := fo 8 Tryz.func91 .z
theorem zbK.ok : Fo 128 (sg [.ag [.b, .is .u32, .i .i64], .lf (.b)] [.ag [.b, .is .u32, .i .i64]]) fun _ => zbK.f := fo 16 Tryz.func128 (.o zaA.ok .z)
theorem zaa.ok : Fo 150 (sg [.lf (.is .u32), .lf (.is .u32)] [.lf (.i .i64)]) zaa.f := fo 43 Tryz.func150 .z [[tt, tt, ff, tt, ff]] fun k => [⟨[(0, .lf (.is .u32)), (1, .lf (.is .u32)), (5, .lf (.i .i64))], zaa.l0 k⟩]
theorem zba.ok : Fo 169 (sg [.lf (.i .u32), .lf (.i .u32), .lf (.i .u32)] [.lf (.i .u32), .lf (.i .u32)]) fun _ => zba.f := fo 25 Tryz.func169 .z
theorem zL.ok : Fo 167 (sg [.lf (.is .u32), .lf (.is .u32)] [.lf (.is .u32)]) zL.f := fo 41 Tryz.func167 (.t zl.ok zl.ok1 (.o zba.ok .z)) [[tt, tt, tt, ff, tt, ff], [tt, tt, tt, ff, tt, ff, ff, tt, tt, ff, ff, tt, tt, tt]] fun k => [⟨[(0, .lf (.is .u32)), (1, .lf (.is .u32)), (5, .ow .u32), (6, .lf (.i .u32)), (13, .lf (.i .i64)), (14, .lf (.i .i64))], zL.l0 k⟩, ⟨[(0, .lf (.is .u32)), (1, .lf (.is .u32)), (5, .ow .u32), (6, .lf (.i .u32)), (7, .lf (.i .i64)), (8, .lf (.i .u32)), (13, .lf (.i .i64)), (14, .lf (.i .i64))], zL.j1 k⟩]
theorem zaN.ok : Fo 163 (sg [.lf (.is .u32), .lf (.is .u32)] [.lf (.is .u32), .lf (.i .i64)]) zaN.f := fo 18 Tryz.func163 (.o zQ.ok (.o zaa.ok (.o zL.ok .z)))
theorem za9.ok : Fo 168 (sg [.lf (.i .u32), .lf (.i .u32), .lf (.i .u32)] [.lf (.i .u32), .lf (.i .u32)]) fun _ => za9.f := fo 22 Tryz.func168 .z
theorem zm.ok : Fo 164 (sg [.lf (.is .u32), .lf (.is .u32)] [.lf (.is .u32), .lf (.i .i64)]) zm.f := fo 63 Tryz.func164 (.t zl.ok zl.ok1 (.o zQ.ok (.t z9.ok z9.ok1 (.o za9.ok .z)))) [[tt, tt, tt, tt, tt, ff, tt, ff], [tt, tt, tt], [tt, tt, tt, tt, tt, ff, tt, ff, ff, tt, tt, ff, ff, tt, tt, tt]] fun k => [⟨[(0, .lf (.is .u32)), (1, .lf (.is .u32)), (6, .ow .u32), (7, .lf (.i .u32)), (27, .lf (.i .i64)), (28, .lf (.i .i64))], zm.l0 k⟩, ⟨[(0, .lf (.is .u32)), (1, .lf (.is .u32))], zm.j1 k⟩, ⟨[(0, .lf (.is .u32)), (1, .lf (.is .u32)), (6, .ow .u32), (7, .lf (.i .u32)), (8, .lf (.i .i64)), (9, .lf (.i .u32)), (27, .lf (.i .i64)), (28, .lf (.i .i64))], zm.j3 k⟩]
theorem zcx.ok : Fo 151 (sg [.ag [.b, .is .u32, .i .i64], .ag [.b, .is .u32, .i .i64], .lf (.i .i64)] [.ag [.b, .is .u32, .i .i64], .lf (.i .i64)]) zcx.f := fo 97 Tryz.func151 (.o zT.ok (.o zal.ok (.o zW.ok (.o zX.ok (.o zZ.ok (.o zaN.ok (.o zm.ok .z)))))))
theorem za0.ok : Fo 165 (sg [.lf (.b), .lf (.is .u32), .lf (.is .u32), .lf (.i .i64)] [.ag [.b, .is .u32, .i .i64], .lf (.i .i64)]) za0.f := fo 64 Tryz.func165 (.o zT.ok (.o zal.ok (.o zX.ok (.o zm.ok .z)))) [[tt, tt, tt, tt, tt, tt]] fun k => [⟨[(0, .lf (.b)), (3, .lf (.i .i64)), (8, .bx [.b, .is .u32, .i .i64]), (16, .lf (.is .u32))], za0.j1 k⟩]
theorem za2.ok : Fo 125 (sg [.lf (.is .u32), .lf (.is .u32)] [.lf (.i .i64), .lf (.i .i64)]) za2.f := fo 14 Tryz.func125 (.o zQ.ok (.o zaa.ok .z))
theorem zau.ok : Fo 152 (sg [.lf (.b), .lf (.is .u32), .lf (.b), .lf (.is .u32), .lf (.i .i64)] [.ag [.b, .is .u32, .i .i64], .lf (.i .i64)]) zau.f := fo 65 Tryz.func152 (.o zT.ok (.o za2.ok (.o zaN.ok (.o zm.ok (.o za0.ok .z))))) [[tt, tt, tt]] fun k => [⟨[(0, .lf (.b)), (1, .lf (.is .u32)), (3, .lf (.is .u32)), (4, .lf (.i .i64)), (10, .bx [.b, .is .u32, .i .i64])], zau.j2 k⟩]
theorem zaf.ok : Fo 127 (sg [.ag [.b, .is .u32, .i .i64], .ag [.b, .is .u32, .i .i64]] [.ag [.b, .is .u32, .i .i64], .lf (.i .i64)]) zaf.f := fo 79 Tryz.func127 (.o zaA.ok (.o zX.ok (.o zZ.ok (.o zcx.ok (.o zau.ok .z))))) [[tt, tt, tt]] fun k => [⟨[(2, .bx [.b, .is .u32, .i .i64]), (3, .bx [.b, .is .u32, .i .i64]), (4, .bx [.b, .is .u32, .i .i64])], zaf.j1 k⟩]
theorem zbl.ok : Fo 97 (sg [.ag [.b, .is .u32, .i .i64], .ag [.b, .is .u32, .i .i64]] [.ag [.b, .is .u32, .i .i64], .lf (.i .i64)]) zbl.f := fo 21 Tryz.func97 (.o zP.ok (.o zaf.ok (.o zbK.ok .z)))
theorem zaB.ok : Fo 55 (sg [.ag [.b, .is .u32, .i .i64], .ag [.b, .is .u32, .i .i64]] [.ag [.b, .is .u32, .i .i64]]) zaB.f := fo 14 Tryz.func55 (.o zbl.ok .z)
theorem zbj.ok : Fo 98 (sg [.ag [.b, .is .u32, .i .i64], .ag [.b, .is .u32, .i .i64]] [.ag [.b, .is .u32, .i .i64], .lf (.i .i64)]) zbj.f := fo 17 Tryz.func98 (.o zP.ok (.o zaf.ok .z))
theorem zaK.ok : Fo 56 (sg [.ag [.b, .is .u32, .i .i64], .ag [.b, .is .u32, .i .i64]] [.ag [.b, .is .u32, .i .i64]]) zaK.f := fo 14 Tryz.func56 (.o zbj.ok .z)
theorem zaJ.ok : Fo 16 (sg [.lf (.i .u8), .ag [.i .u64, .i .u64], .ag [.i .u64, .i .u64]] [.ag [.b, .is .u32, .i .i64], .ag [.b, .is .u32, .i .i64], .lf (.i .i64)]) zaJ.f := fo 50 Tryz.func16 (.o zA.ok (.o zu.ok (.o zav.ok (.o zaB.ok (.o zaK.ok .z)))))
theorem zaV.ok : Fo 48 (sg [.ag [.b, .is .u32, .i .i64, .b, .is .u32, .i .i64]] [.ag [.b, .is .u32, .i .i64]]) zaV.f := fo 14 Tryz.func48 (.o zA.ok (.o zaK.ok .z))
theorem zH.ok : Fo 17 (sg [.lf (.i .u8), .ag [.i .u64, .i .u64], .ag [.i .u64, .i .u64]] [.ag [.b, .is .u32, .i .i64], .ag [.b, .is .u32, .i .i64], .ag [.b, .is .u32, .i .i64], .lf (.i .i64)]) zH.f := fo 71 Tryz.func17 (.o zA.ok (.o zaV.ok (.o zu.ok (.o zav.ok (.o zaB.ok (.o zaK.ok (.o zz.ok .z))))))) [[tt, tt, tt]] fun k => [⟨[(0, .lf (.i .u8)), (4, .bx [.i .u64, .i .u64]), (5, .bx [.i .u64, .i .u64]), (6, .bx [.b, .is .u32, .i .i64]), (7, .bx [.b, .is .u32, .i .i64]), (8, .bx [.b, .is .u32, .i .i64]), (9, .lf (.i .i64))], zH.j1 k⟩]
theorem zaZ.ok : Fo 58 (sg [.lf (.i .u8)] [.lf (.b)]) fun _ => zaZ.f := fo 9 Tryz.func58 .z
theorem zbf.ok : Fo 59 (sg [.lf (.i .u8), .lf (.i .u64)] [.lf (.i .i64)]) fun _ => zbf.f := fo 14 Tryz.func59 (.o zaZ.ok .z)
theorem z7.ok : Fo 18 (sg [.lf (.i .u8), .lf (.rw [.i .u64, .i .u64])] [.lf (.i .i64)]) z7.f := fo 33 Tryz.func18 (.o zaZ.ok (.o zbf.ok .z)) [[tt, tt, ff, tt, ff]] fun k => [⟨[(0, .lf (.i .u8)), (1, .lf (.rw [.i .u64, .i .u64])), (5, .lf (.i .i64))], z7.l0 k⟩]
theorem zbG.ok : Fo 129 (sg [.lf (.i .u8)] [.lf (.i .u64)]) fun _ => zbG.f := fo 5 Tryz.func129 .z
theorem zaY.ok : Fo 51 (sg [.lf (.i .u8)] [.lf (.i .i64)]) fun _ => zaY.f := fo 5 Tryz.func51 .z
theorem zaH.ok : Fo 100 (sg [.lf (.i .u8), .lf (.i .u64)] [.ag [.b, .i .i64, .i .u64]]) fun _ => zaH.f := fo 28 Tryz.func100 (.o zaY.ok (.o zbG.ok .z))
theorem zbF.ok : Fo 101 (sg [.lf (.i .u8)] [.lf (.i .i64)]) fun _ => zbF.f := fo 5 Tryz.func101 .z
theorem zaT.ok : Fo 61 (sg [.lf (.i .u8), .lf (.i .u64)] [.lf (.i .u8)]) fun _ => zaT.f := fo 28 Tryz.func61 (.o zaH.ok (.o zbF.ok .z))
theorem zbe.ok : Fo 60 (sg [.lf (.i .u8), .lf (.i .u64)] [.lf (.b)]) fun _ => zbe.f := fo 15 Tryz.func60 (.o zaT.ok .z)
theorem zbh.ok : Fo 19 (sg [.lf (.i .u8), .ag [.i .u64, .i .u64]] [.lf (.b)]) fun _ => zbh.f := fo 15 Tryz.func19 (.o zbe.ok .z)
theorem zbg.ok : Fo 20 (sg [.lf (.i .u8), .ag [.i .u64, .i .u64]] [.lf (.i .u8)]) fun _ => zbg.f := fo 33 Tryz.func20 (.o zaT.ok .z)
theorem zai.ok : Fo 62 (sg [.lf (.is .u32), .lf (.is .u32)] [.lf (.b)]) zai.f := fo 26 Tryz.func62 .z [[tt, tt, ff, tt, ff]] fun k => [⟨[(0, .lf (.is .u32)), (1, .lf (.is .u32)), (5, .lf (.i .i64))], zai.l0 k⟩]
theorem zS.ok : Fo 21 (sg [.ag [.b, .is .u32, .i .i64], .ag [.b, .is .u32, .i .i64]] [.lf (.b)]) zS.f := fo 24 Tryz.func21 (.o zai.ok .z)
theorem zn.ok : Fo 87 (sg [.ow .u32] [.ow .u32]) zn.f := fo 21 Tryz.func87 .z [[tt, tt, ff, ff]] fun k => [⟨[(0, .ow .u32), (3, .lf (.i .i64))], zn.l0 k⟩]
theorem zn.ok1 : Fo 87 (sg [.lf (.is .u32)] [.lf (.is .u32)]) zn.f := fo 21 Tryz.func87 .z [[tt, tt, ff, ff]] fun k => [⟨[(0, .lf (.is .u32)), (3, .lf (.i .i64))], zn.l0 k⟩]
theorem zaS.ok : Fo 66 (sg [.lf (.i .u64)] [.lf (.is .u32)]) zaS.f := fo 10 Tryz.func66 (.t zn.ok zn.ok1 .z)
theorem zbD.ok : Fo 86 (sg [.lf (.is .u32), .lf (.i .i64)] [.lf (.i .u32)]) fun _ => zbD.f := fo 23 Tryz.func86 .z
theorem z5.ok : Fo 103 (sg [.lf (.is .u32)] [.lf (.i .i64)]) z5.f := fo 31 Tryz.func103 (.o zbD.ok .z) [[tt, tt, ff, ff]] fun k => [⟨[(0, .lf (.is .u32)), (3, .lf (.i .i64))], z5.l0 k⟩]
theorem zat.ok : Fo 80 (sg [.lf (.is .u32)] [.lf (.i .i64)]) zat.f := fo 25 Tryz.func80 .z [[tt, tt, tt, ff, tt, ff]] fun k => [⟨[(3, .lf (.i .i64)), (4, .lf (.i .u32))], zat.l0 k⟩]
theorem zad.ok : Fo 83 (sg [.lf (.is .u32), .lf (.i .i64)] [.lf (.is .u32), .lf (.b)]) zad.f := fo 63 Tryz.func83 (.o zat.ok (.t zn.ok zn.ok1 (.o z5.ok .z))) [[tt, tt, tt, tt, tt, ff, tt, ff]] fun k => [⟨[(0, .lf (.is .u32)), (6, .lf (.b)), (7, .ow .u32), (8, .lf (.i .i64)), (9, .lf (.i .i64))], zad.l0 k⟩]
theorem z6.ok : Fo 65 (sg [.lf (.b), .lf (.is .u32), .lf (.i .i64)] [.ag [.b, .is .u32, .i .i64]]) z6.f := fo 28 Tryz.func65 (.o zad.ok (.o z5.ok .z))
theorem zay.ok : Fo 24 (sg [.lf (.i .i64)] [.ag [.b, .is .u32, .i .i64]]) zay.f := fo 15 Tryz.func24 (.o z6.ok (.o zaS.ok .z)) [[tt, tt, tt]] fun k => [⟨[(0, .lf (.i .i64)), (2, .bx [.b, .is .u32, .i .i64]), (3, .lf (.i .u64))], zay.j0 k⟩]
theorem zaz.ok : Fo 72 (sg [.ag [.b, .is .u32, .i .i64]] [.lf (.i .i64)]) zaz.f := fo 16 Tryz.func72 (.o zO.ok .z) [[tt, ff, ff, tt]] fun k => [⟨[(1, .bx [.b, .is .u32, .i .i64]), (3, .lf (.b))], zaz.j0 k⟩]
theorem zD.ok : Fo 27 (sg [.lf (.i .u8), .ag [.i .u64, .i .u64], .lf (.i .i64), .ag [.b, .is .u32, .i .i64], .ag [.b, .is .u32, .i .i64], .ag [.b, .is .u32, .i .i64]] [.lf (.i .i64)]) zD.f := fo 75 Tryz.func27 (.o zu.ok (.o zO.ok (.o zaz.ok .z))) [[tt, tt, tt, tt, ff, tt, ff], [tt, tt, tt, ff, ff, tt]] fun k => [⟨[(56, .ag [.b, .is .u32, .i .i64, .b, .is .u32, .i .i64, .b, .is .u32, .i .i64]), (57, .lf (.i .i64))], zD.l0 k⟩, ⟨[(9, .bx [.b, .is .u32, .i .i64]), (10, .bx [.b, .is .u32, .i .i64]), (11, .bx [.b, .is .u32, .i .i64]), (13, .lf (.i .i64)), (27, .lf (.b))], zD.j2 k⟩]
theorem zcA.ok : Fo 45 (sg [.lf (.i .u8)] [.lf (.i .i64)]) fun _ => zcA.f := fo 5 Tryz.func45 .z
theorem zcw.ok : Fo 44 (sg [.ag [.b, .is .u32, .i .i64], .lf (.i .i64)] [.ag [.b, .is .u32, .i .i64], .lf (.i .i64)]) fun _ => zcw.f := fo 39 Tryz.func44 (.o zO.ok (.o zaA.ok .z))
theorem zbL.ok : Fo 28 (sg [.lf (.i .u8), .ag [.i .u64, .i .u64], .ag [.b, .is .u32, .i .i64], .ag [.b, .is .u32, .i .i64], .ag [.b, .is .u32, .i .i64]] [.ag [.b, .is .u32, .i .i64], .ag [.b, .is .u32, .i .i64]]) zbL.f := fo 44 Tryz.func28 (.o zcw.ok (.o zcA.ok (.o zA.ok (.o zaV.ok (.o zav.ok (.o zaB.ok .z))))))
theorem zbm.ok : Fo 123 (sg [.ag [.b, .is .u32, .i .i64]] [.lf (.i .i64)]) zbm.f := fo 18 Tryz.func123 (.o zO.ok (.o zZ.ok .z))
theorem za1.ok : Fo 94 (sg [.ag [.b, .is .u32, .i .i64], .ag [.b, .is .u32, .i .i64]] [.lf (.i .i64)]) za1.f := fo 55 Tryz.func94 (.o zX.ok (.o zbm.ok (.o zZ.ok (.o za2.ok .z)))) [[tt, tt, tt, tt]] fun k => [⟨[(5, .lf (.is .u32)), (6, .lf (.is .u32))], za1.j1 k⟩]
theorem zcv.ok : Fo 47 (sg [.ag [.b, .is .u32, .i .i64], .ag [.b, .is .u32, .i .i64]] [.lf (.i .i64), .lf (.i .i64)]) zcv.f := fo 30 Tryz.func47 (.o zaz.ok (.o zP.ok (.o za1.ok .z)))
theorem zbn.ok : Fo 29 (sg [.ag [.b, .is .u32, .i .i64], .ag [.b, .is .u32, .i .i64], .lf (.i .u64)] [.lf (.b)]) zbn.f := fo 29 Tryz.func29 (.o zA.ok (.o zcv.ok (.o zT.ok (.o zal.ok .z))))
theorem zaU.ok : Fo 10 (sg [.lf (.i .u8), .ag [.i .u64, .i .u64], .ag [.b, .is .u32, .i .i64], .ag [.b, .is .u32, .i .i64], .ag [.b, .is .u32, .i .i64]] [.lf (.i .u64), .lf (.i .i64)]) zaU.f := fo 56 Tryz.func10 (.o zD.ok (.o zbL.ok (.o zbn.ok .z))) [[tt, tt, tt, tt, tt, ff, ff]] fun k => [⟨[(13, .bx [.b, .is .u32, .i .i64]), (14, .bx [.b, .is .u32, .i .i64]), (15, .lf (.i .u64)), (16, .lf (.i .u64))], zaU.l0 k⟩]
theorem zcz.ok : Fo 9 (sg [.lf (.i .u8), .ag [.i .u64, .i .u64], .ag [.b, .is .u32, .i .i64], .ag [.b, .is .u32, .i .i64], .ag [.b, .is .u32, .i .i64], .lf (.i .i64)] [.lf (.b), .lf (.i .i64)]) zcz.f := fo 41 Tryz.func9 (.o zD.ok (.o zbL.ok (.o zbn.ok .z)))
theorem zbc.ok : Fo 8 (sg [] [.lf (.b)]) zbc.f := fo 35 Tryz.func8 (.o zcz.ok (.o zaU.ok (.o zay.ok .z)))
theorem zbE.ok : Fo 50 (sg [.lf (.i .u8)] [.lf (.i .i64)]) fun _ => zbE.f := fo 5 Tryz.func50 .z
theorem zaI.ok : Fo 77 (sg [.lf (.i .u8), .lf (.i .u64)] [.ag [.b, .is .u32, .i .i64]]) zaI.f := fo 36 Tryz.func77 (.o zbE.ok (.o zaY.ok (.o z6.ok (.o zaS.ok (.o zaH.ok .z)))))
theorem zo.ok : Fo 79 (sg [.lf (.is .u32), .lf (.is .u32)] [.lf (.is .u32)]) zo.f := fo 85 Tryz.func79 (.t zn.ok zn.ok1 .z) [[tt, tt, tt, tt, tt, ff, tt, ff], [tt, tt, tt, tt, tt, ff, tt, ff, ff, tt, ff, ff, tt, tt, ff, tt, ff], [tt, tt, tt, tt, tt, ff, tt, ff, ff, tt, ff, ff, tt, tt]] fun k => [⟨[(0, .lf (.is .u32)), (1, .lf (.is .u32)), (5, .ow .u32), (6, .lf (.i .u64)), (7, .lf (.i .u64)), (8, .lf (.i .i64))], zo.l0 k⟩, ⟨[(0, .lf (.is .u32)), (1, .lf (.is .u32)), (5, .ow .u32), (6, .lf (.i .u64)), (7, .lf (.i .u64)), (8, .lf (.i .i64)), (10, .lf (.i .i64))], zo.l1 k⟩, ⟨[(0, .lf (.is .u32)), (1, .lf (.is .u32)), (5, .ow .u32), (6, .lf (.i .u64)), (7, .lf (.i .u64)), (8, .lf (.i .i64)), (9, .lf (.i .i64))], zo.j3 k⟩]
theorem zaG.ok : Fo 35 (sg [.ag [.b, .is .u32, .i .i64], .ag [.b, .is .u32, .i .i64]] [.ag [.b, .is .u32, .i .i64]]) zaG.f := fo 21 Tryz.func35 (.o z6.ok (.o zo.ok .z))
theorem zbd.ok : Fo 118 (sg [.ag [.b, .is .u32, .i .i64]] [.ag [.b, .is .u32, .i .i64]]) fun _ => zbd.f := fo 12 Tryz.func118 .z
theorem zbi.ok : Fo 130 (sg [.lf (.i .u8), .lf (.i .u64)] [.lf (.b)]) fun _ => zbi.f := fo 9 Tryz.func130 (.o zaH.ok .z)
theorem zK.ok : Fo 102 (sg [.lf (.i .u8), .lf (.i .u64), .lf (.i .u64), .lf (.b)] [.ag [.b, .is .u32, .i .i64, .b]]) zK.f := fo 31 Tryz.func102 (.o zaG.ok (.o zaI.ok (.o zbd.ok (.o zbi.ok .z)))) [[tt, tt, tt]] fun k => [⟨[(0, .lf (.i .u8)), (1, .lf (.i .u64)), (2, .lf (.i .u64)), (3, .lf (.b)), (8, .bx [.b, .is .u32, .i .i64, .b]), (9, .bx [.b, .is .u32, .i .i64])], zK.j0 k⟩]
theorem zae.ok : Fo 41 (sg [.lf (.is .u32), .lf (.i .i64)] [.lf (.is .u32)]) zae.f := fo 45 Tryz.func41 (.t zn.ok zn.ok1 .z) [[tt, tt, tt, tt, tt, ff, tt, ff]] fun k => [⟨[(0, .lf (.is .u32)), (5, .ow .u32), (6, .lf (.i .i64)), (7, .lf (.i .u64)), (8, .lf (.i .i64))], zae.l0 k⟩]
theorem zp.ok : Fo 42 (sg [.lf (.is .u32), .lf (.is .u32)] [.lf (.is .u32)]) zp.f := fo 55 Tryz.func42 (.t zn.ok zn.ok1 .z) [[tt, tt, tt, ff, tt, ff], [tt, tt, tt, ff, tt, ff, ff, tt, ff, ff, tt], [tt, tt, tt, ff, tt, ff, ff, tt, ff, ff, tt, tt]] fun k => [⟨[(0, .lf (.is .u32)), (1, .lf (.is .u32)), (5, .ow .u32), (6, .lf (.i .u64)), (7, .lf (.i .i64))], zp.l0 k⟩, ⟨[(0, .lf (.is .u32)), (1, .lf (.is .u32)), (5, .ow .u32), (6, .lf (.i .u64)), (7, .lf (.i .i64))], zp.j2 k⟩, ⟨[(0, .lf (.is .u32)), (1, .lf (.is .u32)), (5, .ow .u32), (6, .lf (.i .u64)), (7, .lf (.i .i64))], zp.j3 k⟩]
theorem zah.ok : Fo 84 (sg [.lf (.is .u32), .lf (.is .u32)] [.lf (.i .i64)]) zah.f := fo 41 Tryz.func84 .z [[tt, tt, ff, tt, ff]] fun k => [⟨[(0, .lf (.is .u32)), (1, .lf (.is .u32)), (5, .lf (.i .i64))], zah.l0 k⟩]
theorem zq.ok : Fo 85 (sg [.lf (.is .u32), .lf (.is .u32)] [.lf (.is .u32)]) zq.f := fo 47 Tryz.func85 (.t zn.ok zn.ok1 .z) [[tt, tt, tt, ff, tt, ff], [tt, tt, tt, ff, tt, ff, ff, tt, ff, ff, tt, tt], [tt, tt, tt, ff, tt, ff, ff, tt, ff, ff, tt, tt, tt, tt, tt]] fun k => [⟨[(0, .lf (.is .u32)), (1, .lf (.is .u32)), (5, .ow .u32), (6, .lf (.i .u64)), (7, .lf (.i .i64))], zq.l0 k⟩, ⟨[(0, .lf (.is .u32)), (1, .lf (.is .u32)), (5, .ow .u32), (7, .lf (.i .i64)), (8, .lf (.i .u64))], zq.j1 k⟩, ⟨[(0, .lf (.is .u32)), (1, .lf (.is .u32)), (5, .ow .u32), (6, .lf (.i .u64)), (7, .lf (.i .i64)), (8, .lf (.i .u64)), (9, .lf (.i .u64))], zq.j2 k⟩]
theorem zN.ok : Fo 39 (sg [.ag [.b, .is .u32, .i .i64], .ag [.b, .is .u32, .i .i64]] [.ag [.b, .is .u32, .i .i64]]) zN.f := fo 70 Tryz.func39 (.o zae.ok (.o zp.ok (.o z6.ok (.o zah.ok (.o zq.ok .z))))) [[tt, tt, tt, tt, tt]] fun k => [⟨[(2, .bx [.b, .is .u32, .i .i64]), (3, .bx [.b, .is .u32, .i .i64]), (4, .bx [.b, .is .u32, .i .i64]), (5, .lf (.i .i64))], zN.j2 k⟩]
theorem zb6.ok : Fo 64 (sg [.lf (.i .u8), .ag [.i .u64, .i .u64], .ag [.i .u64, .i .u64]] [.ag [.b, .is .u32, .i .i64, .b, .b, .is .u32, .i .i64, .b], .ag [.b, .is .u32, .i .i64, .b, .b, .is .u32, .i .i64, .b], .ag [.b, .is .u32, .i .i64]]) zb6.f := fo 52 Tryz.func64 (.o zaG.ok (.o zN.ok (.o zaI.ok (.o zK.ok .z))))
theorem zbI.ok : Fo 23 (sg [.lf (.i .u8), .ag [.i .u64, .i .u64], .ag [.i .u64, .i .u64]] [.ag [.b, .is .u32, .i .i64], .ag [.b, .is .u32, .i .i64], .ag [.b, .is .u32, .i .i64]]) zbI.f := fo 35 Tryz.func23 (.o zN.ok (.o zb6.ok .z))
theorem zb5.ok : Fo 63 (sg [.lf (.i .u8), .ag [.i .u64, .i .u64], .ag [.i .u64, .i .u64]] [.ag [.b, .is .u32, .i .i64, .b, .b, .is .u32, .i .i64, .b], .ag [.b, .is .u32, .i .i64, .b, .b, .is .u32, .i .i64, .b]]) zb5.f := fo 34 Tryz.func63 (.o zK.ok .z)
theorem zbH.ok : Fo 22 (sg [.lf (.i .u8), .ag [.i .u64, .i .u64], .ag [.i .u64, .i .u64]] [.ag [.b, .is .u32, .i .i64], .ag [.b, .is .u32, .i .i64]]) zbH.f := fo 31 Tryz.func22 (.o zN.ok (.o zb5.ok .z))
theorem zk.ok : Fo 5 (sg [.lf (.i .u8), .ag [.i .u64, .i .u64], .ag [.i .u64, .i .u64]] [.lf (.b)]) zk.f := fo 160 Tryz.func5 (.o zbc.ok (.o zaJ.ok (.o zH.ok (.o z7.ok (.o zbh.ok (.o zbg.ok (.o zS.ok (.o zbH.ok (.o zbI.ok .z))))))))) [[tt, tt, tt, tt, tt], [tt, tt, tt, tt, tt, tt, tt, tt], [tt, tt, tt, tt, tt, tt, tt, tt, tt]] fun k => [⟨[(0, .lf (.i .u8)), (4, .bx [.i .u64, .i .u64]), (5, .bx [.i .u64, .i .u64]), (7, .bx [.b, .is .u32, .i .i64]), (8, .bx [.b, .is .u32, .i .i64]), (9, .lf (.i .i64)), (10, .bx [.b, .is .u32, .i .i64]), (11, .bx [.b, .is .u32, .i .i64]), (12, .bx [.b, .is .u32, .i .i64]), (13, .lf (.i .i64)), (14, .lf (.i .i64))], zk.j1 k⟩, ⟨[(0, .lf (.i .u8)), (4, .bx [.i .u64, .i .u64]), (5, .bx [.i .u64, .i .u64]), (7, .bx [.b, .is .u32, .i .i64]), (8, .bx [.b, .is .u32, .i .i64]), (9, .lf (.i .i64)), (10, .bx [.b, .is .u32, .i .i64]), (11, .bx [.b, .is .u32, .i .i64]), (12, .bx [.b, .is .u32, .i .i64]), (13, .lf (.i .i64)), (14, .lf (.i .i64)), (15, .bx [.b, .is .u32, .i .i64]), (16, .lf (.i .i64))], zk.j3 k⟩, ⟨[(0, .lf (.i .u8)), (4, .bx [.i .u64, .i .u64]), (5, .bx [.i .u64, .i .u64]), (10, .bx [.b, .is .u32, .i .i64]), (11, .bx [.b, .is .u32, .i .i64]), (12, .bx [.b, .is .u32, .i .i64]), (13, .lf (.i .i64)), (15, .bx [.b, .is .u32, .i .i64]), (16, .lf (.i .i64))], zk.j6 k⟩]
end Go.Proofs.YtioialhbjmnndaaGreatDoor.Eng
