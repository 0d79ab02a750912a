import Derived.Test.YtioialhbjmnndaaGreatDoorQGaugeExactF1
import Derived.Tactics
import Derived.BigQuiet
import Derived.WalkKit
import Derived.OwnWalk
import Derived.Lib.TrailingZeros
set_option linter.unusedVariables false
set_option linter.unusedSimpArgs false
namespace Go.Proofs.YtioialhbjmnndaaGreatDoor.Eng
open Go.RowKit Go.Proofs Go
set_option maxRecDepth 100000
def zgw (w : World) : Prop := ∀ j, j < 32 → w.cell? ⟨0, j, none⟩ = some (.int .u8 (Lib.deBruijn32tab.getD j 0))
theorem zmd (x k idx : Nat) (w : World) (hx0 : ((x : Int) == 0) = false)
  (key : bits BinOp.and IntKind.u32 (x : Int) (-(x : Int) % 4294967296) * 125613361 % 4294967296 / 134217728 = (idx : Int))
  (hi : idx < 32) (hk : k < 32) (hcell : w.cell? ⟨0, idx, none⟩ = some (.int .u8 k)) :
  Calls Tryz.prog 141 #[.int .u32 x] w fun e w' => e = .returned (.int .i64 k) ∧ w' = w := by
 go_enter Tryz.func141, Tryz.ntmps141
 go_wp2_with (simp only [key])
 go_ret
 exact ⟨rfl, rfl⟩
theorem zmg (w : World) : Calls Tryz.prog 141 #[.int .u32 0] w fun e w' => e = .returned (.int .i64 32) ∧ w' = w := by
 go_enter Tryz.func141, Tryz.ntmps141
 go_wp2
 go_ret
 exact ⟨rfl, rfl⟩
theorem zjj (a b : Nat) (ha : a < 4294967296) (hb : b < 4294967296) : bits .and .u32 (a : Int) (b : Int) = ((a &&& b : Nat) : Int) := by
 have hx : a &&& b < 2 ^ 32 := Nat.and_lt_two_pow _ (by omega)
 have h1 : (BitVec.ofInt 32 (a : Int)).toNat = a := by
  rw [BitVec.ofInt_natCast, BitVec.toNat_ofNat]; exact Nat.mod_eq_of_lt (by omega)
 have h2 : (BitVec.ofInt 32 (b : Int)).toNat = b := by
  rw [BitVec.ofInt_natCast, BitVec.toNat_ofNat]; exact Nat.mod_eq_of_lt (by omega)
 show IntKind.u32.wrap ((BitVec.ofInt 32 (a : Int) &&& BitVec.ofInt 32 (b : Int)).toNat : Int) = _
 have h3 : ∀ n : Int, IntKind.u32.wrap n = n % 4294967296 := fun n => by simp [IntKind.wrap, IntKind.signed, IntKind.bits]
 rw [BitVec.toNat_and, h1, h2, h3]
 omega
theorem zmf (x a : Nat) (hx : x < 4294967296) (hx0 : x ≠ 0) (hlow : x &&& (4294967296 - x) = a) :
  bits BinOp.and IntKind.u32 (x : Int) (-(x : Int) % 4294967296) * 125613361 % 4294967296 / 134217728 = ((a * 125613361 % 4294967296 / 134217728 : Nat) : Int) := by
 have e1 : -(x : Int) % 4294967296 = ((4294967296 - x : Nat) : Int) := by omega
 rw [e1, zjj x _ hx (by omega), hlow]
 omega
theorem zmc (a0 r : Int) (w : World) (hT : zgw w) (h : za2.f a0 = some r) :
  Calls Tryz.prog 141 #[.int .u32 a0] w fun e w' => e = .returned (.int .i64 r) ∧ w' = w := by
 unfold za2.f at h
 split at h
 case isFalse => cases h
 rename_i hx
 obtain ⟨x, rfl⟩ := Int.eq_ofNat_of_zero_le hx.1
 obtain rfl := Option.some.inj h
 rw [Int.toNat_natCast]
 by_cases hx0 : x = 0
 ·subst hx0
  exact zmg w
 ·obtain ⟨hlow, hk⟩ := Lib.lowest_bit 32 x hx0 (by omega)
  obtain ⟨hi, htab⟩ := Lib.deBruijn32_at _ hk
  have hcell := hT _ hi
  rw [htab] at hcell
  exact zmd x _ _ w (by simp; omega) (zmf x _ (by omega) hx0 hlow) hi hk hcell
theorem za2.ok : ∀ k, qK Tryz.prog zcS 141 (za2.F k) := by
 intro k
 refine ⟨⟨Tryz.f141, qdJ Tryz.f141, Tryz.func141, by kernel_rfl, by kernel_rfl⟩, rfl, rfl, fun M φ w args ls r hgl hc hr => ?_⟩
 have hlf := qap hr
 obtain ⟨x, rfl⟩ : ∃ x, ls = [.int .u32 x] := by
  clear hc hr
  obtain ⟨y, rfl⟩ := List.length_eq_one_iff.1 (qaq hlf).1
  simp only [za2.F, qo, qD, qf, qB, Bool.and_true, List.append_nil] at hlf
  cases y <;> first | (cases hlf; done) | exact ⟨_, by rw [← qz hlf]⟩
 have hr : za2.f x = some r := hr
 have ha : args = #[.int .u32 x] := by
  have hs := hc.size
  have hs : args.size = 1 := hs
  have h1 := (hc.args 0 args[0] (by simp [hs])).1
  apply Array.ext
  ·simp [hs]
  ·intro i h1' h2'
   have : i = 0 := by simp at h2'; omega
   subst this
   exact h1
 have hT : zgw w := fun j hj => hc.rel.holds 0 j _ (hgl 0 j _ (by unfold zcS; rw [if_pos ⟨rfl, hj⟩]))
 subst ha
 refine (zmc x r w hT hr).mono fun e w' h => ⟨_, h.1, rfl, M, φ, ⟨rfl, qa6 _⟩, ?_, ?_, qp.refl φ⟩
 ·rw [h.2]; exact hc.rel
 ·rw [h.2]; exact Stp.refl M φ _ w
open Go.RowKit Go.Proofs
theorem zi3 : TOk Tryz.prog TT := qio (by kernel_rfl)
theorem zj5 : Tryz.prog.follows .mixedOrders = true := by kernel_rfl
abbrev Fo (n : Nat) (S : Sig) (f : Nat → Fn (qo S.ps) (Option S.R)) : Prop := ∀ k, qK Tryz.prog zcS n ⟨S, f k⟩
theorem fo {n : Nat} {ps rs : List Kx} {f : Nat → Fn (qo ps) (Option (sg ps rs).R)} {G : Nat → List (Nat × List Fun)} {fn : Func}
  (nt : Nat) (hf : Tryz.prog.funcs[n]? = some fn) (gs : GP Tryz.prog zcS G) (ds : List (List Bool) := []) (H : Nat → List (qaA (sg ps rs).R) := fun _ => []) (frz : List Nat := [])
  (hname : (fn.name == "runtime.NumGoroutine") = false := by kernel_rfl) (hbody : fn.body = some (qdJ fn) := by kernel_rfl) (hnt : nt = fn.ntmps := by kernel_rfl) (hr : rs.all qah = true := by kernel_rfl)
  (hck : qca (qaO (sg ps rs)) (zc ds (H 0)) = true := by kernel_rfl)
  (h0 : qbZ (H 0) := by ((repeat (refine ⟨by ((repeat (intro _)); show _ = _; kernel_rfl), ?_⟩)); trivial))
  (hs : ∀ k, qb6 (mkC TT zcS G nt (zc ds (H 0)) frz k) (sg ps rs) (qdJ fn) fn.results.toList (qaL (H k)) (zc ds (H 0)) (H (k + 1)) := by (intro k; (repeat (refine ⟨rfl, by ((repeat (intro _)); show _ = _; kernel_rfl), ?_⟩)); trivial))
  (he : ∀ k, qW (qo ps) (fun ls y => qet (mkC TT zcS G nt (zc ds (H 0)) frz k) (sg ps rs) (qdJ fn) fn.results.toList (qaL (H k)) ls = y) (f k) := by ((repeat (intro _)); show _ = _; kernel_rfl)) : Fo n (sg ps rs) f :=
 qK.mk' zi3 zj5 nt hf gs ds H frz hname hbody hnt hr hck h0 hs he
theorem zct.ok : Fo 58 (sg [.lf (.i .u8)] [.lf (.b)]) fun _ => zct.f := fo 9 Tryz.func58 .z
theorem zc6.ok : Fo 59 (sg [.lf (.i .u8), .lf (.i .u64)] [.lf (.i .i64)]) fun _ => zc6.f := fo 14 Tryz.func59 (.o zct.ok .z)
theorem zaR.ok : Fo 18 (sg [.lf (.i .u8), .lf (.rw [.i .u64, .i .u64])] [.lf (.i .i64)]) zaR.f := fo 33 Tryz.func18 (.o zct.ok (.o zc6.ok .z)) [[tt, tt, ff, tt, ff]] fun k => [⟨[(0, .lf (.i .u8)), (1, .lf (.rw [.i .u64, .i .u64])), (5, .lf (.i .i64))], zaR.l0 k⟩]
theorem zbh.ok : Fo 129 (sg [.lf (.i .u8)] [.lf (.i .u64)]) fun _ => zbh.f := fo 5 Tryz.func129 .z
theorem zan.ok : Fo 51 (sg [.lf (.i .u8)] [.lf (.i .i64)]) fun _ => zan.f := fo 5 Tryz.func51 .z
theorem zau.ok : Fo 100 (sg [.lf (.i .u8), .lf (.i .u64)] [.ag [.b, .i .i64, .i .u64]]) fun _ => zau.f := fo 28 Tryz.func100 (.o zan.ok (.o zbh.ok .z))
theorem zbB.ok : Fo 101 (sg [.lf (.i .u8)] [.lf (.i .i64)]) fun _ => zbB.f := fo 5 Tryz.func101 .z
theorem zG.ok : Fo 61 (sg [.lf (.i .u8), .lf (.i .u64)] [.lf (.i .u8)]) fun _ => zG.f := fo 28 Tryz.func61 (.o zau.ok (.o zbB.ok .z))
theorem zc5.ok : Fo 60 (sg [.lf (.i .u8), .lf (.i .u64)] [.lf (.b)]) fun _ => zc5.f := fo 15 Tryz.func60 (.o zG.ok .z)
theorem zbk.ok : Fo 19 (sg [.lf (.i .u8), .ag [.i .u64, .i .u64]] [.lf (.b)]) fun _ => zbk.f := fo 15 Tryz.func19 (.o zc5.ok .z)
theorem za4.ok : Fo 20 (sg [.lf (.i .u8), .ag [.i .u64, .i .u64]] [.lf (.i .u8)]) fun _ => za4.f := fo 33 Tryz.func20 (.o zG.ok .z)
theorem zt.ok : Fo 87 (sg [.ow .u32] [.ow .u32]) zt.f := fo 21 Tryz.func87 .z [[tt, tt, ff, ff]] fun k => [⟨[(0, .ow .u32), (3, .lf (.i .i64))], zt.l0 k⟩]
theorem zt.ok1 : Fo 87 (sg [.lf (.is .u32)] [.lf (.is .u32)]) zt.f := fo 21 Tryz.func87 .z [[tt, tt, ff, ff]] fun k => [⟨[(0, .lf (.is .u32)), (3, .lf (.i .i64))], zt.l0 k⟩]
theorem zbK.ok : Fo 66 (sg [.lf (.i .u64)] [.lf (.is .u32)]) zbK.f := fo 10 Tryz.func66 (.t zt.ok zt.ok1 .z)
theorem zcq.ok : Fo 86 (sg [.lf (.is .u32), .lf (.i .i64)] [.lf (.i .u32)]) fun _ => zcq.f := fo 23 Tryz.func86 .z
theorem z9.ok : Fo 103 (sg [.lf (.is .u32)] [.lf (.i .i64)]) z9.f := fo 31 Tryz.func103 (.o zcq.ok .z) [[tt, tt, ff, ff]] fun k => [⟨[(0, .lf (.is .u32)), (3, .lf (.i .i64))], z9.l0 k⟩]
theorem zQ.ok : Fo 80 (sg [.lf (.is .u32)] [.lf (.i .i64)]) zQ.f := fo 25 Tryz.func80 .z [[tt, tt, tt, ff, tt, ff]] fun k => [⟨[(3, .lf (.i .i64)), (4, .lf (.i .u32))], zQ.l0 k⟩]
theorem z6.ok : Fo 83 (sg [.lf (.is .u32), .lf (.i .i64)] [.lf (.is .u32), .lf (.b)]) z6.f := fo 63 Tryz.func83 (.o zQ.ok (.t zt.ok zt.ok1 (.o z9.ok .z))) [[tt, tt, tt, tt, tt, ff, tt, ff]] fun k => [⟨[(0, .lf (.is .u32)), (6, .lf (.b)), (7, .ow .u32), (8, .lf (.i .i64)), (9, .lf (.i .i64))], z6.l0 k⟩]
theorem zX.ok : Fo 65 (sg [.lf (.b), .lf (.is .u32), .lf (.i .i64)] [.ag [.b, .is .u32, .i .i64]]) zX.f := fo 28 Tryz.func65 (.o z6.ok (.o z9.ok .z))
theorem zaa.ok : Fo 24 (sg [.lf (.i .i64)] [.ag [.b, .is .u32, .i .i64]]) zaa.f := fo 15 Tryz.func24 (.o zX.ok (.o zbK.ok .z)) [[tt, tt, tt]] fun k => [⟨[(0, .lf (.i .i64)), (2, .bx [.b, .is .u32, .i .i64]), (3, .lf (.i .u64))], zaa.j0 k⟩]
theorem zes.ok : Fo 144 (sg [.lf (.i .u8)] [.ag [.i .i64, .i .i64, .i .u64], .lf (.b)]) fun _ => zes.f := fo 12 Tryz.func144 .z
theorem zaL.ok : Fo 120 (sg [.lf (.i .u8), .lf (.is .u64)] [.ag [.i .i64, .i .i64, .i .u64], .lf (.i .i64)]) zaL.f := fo 35 Tryz.func120 (.o zes.ok .z) [[tt, tt, tt, ff, tt, ff]] fun k => [⟨[(4, .bx [.i .i64, .i .i64, .i .u64]), (6, .bx [.i .i64, .i .i64, .i .u64]), (18, .lf (.is .u64)), (19, .lf (.i .i64)), (20, .lf (.i .i64))], zaL.l0 k⟩]
theorem zdu.ok : Fo 126 (sg [.lf (.i .u8), .lf (.i .u64)] [.lf (.i .i64)]) zdu.f := fo 15 Tryz.func126 (.o zaL.ok .z)
theorem zdQ.ok : Fo 95 (sg [.lf (.i .u8), .ag [.i .u64, .i .u64]] [.lf (.i .i64)]) zdQ.f := fo 17 Tryz.func95 (.o zdu.ok .z)
theorem zdv.ok : Fo 145 (sg [.ag [.i .i64, .i .i64, .i .u64]] [.lf (.i .u64)]) fun _ => zdv.f := fo 9 Tryz.func145 .z
theorem zcU.ok : Fo 121 (sg [.ag [.i .i64, .i .i64, .i .u64], .lf (.i .u64)] [.lf (.i .u8)]) fun _ => zcU.f := fo 29 Tryz.func121 (.o zdv.ok .z)
theorem zdt.ok : Fo 99 (sg [.lf (.i .u8), .lf (.i .u64)] [.lf (.i .u8), .lf (.i .i64)]) zdt.f := fo 21 Tryz.func99 (.o zaL.ok (.o zcU.ok .z))
theorem zal.ok : Fo 57 (sg [.lf (.i .u8), .ag [.i .u64, .i .u64]] [.lf (.i .u8), .lf (.i .i64)]) zal.f := fo 51 Tryz.func57 (.o zdt.ok .z) [[tt, tt, tt, tt, ff, ff, tt, tt, tt], [tt, tt, tt, tt, ff, ff, tt, tt, tt, tt, tt]] fun k => [⟨[(6, .lf (.i .u8)), (8, .lf (.i .u8)), (30, .lf (.b))], zal.j1 k⟩, ⟨[(6, .lf (.i .u8)), (8, .lf (.i .u8)), (37, .lf (.b))], zal.j2 k⟩]
theorem zT.ok : Fo 53 (sg [.lf (.i .u8), .lf (.rw [.i .u64, .i .u64])] [.lf (.i .i64)]) zT.f := fo 40 Tryz.func53 (.o zal.ok (.o zdQ.ok .z)) [[tt, ff, tt, ff], [tt, tt, ff, tt, ff]] fun k => [⟨[(0, .lf (.i .u8)), (1, .lf (.rw [.i .u64, .i .u64])), (12, .lf (.rw [.i .u64, .i .u64])), (13, .lf (.i .i64)), (14, .lf (.i .i64))], zT.l0 k⟩, ⟨[(0, .lf (.i .u8)), (25, .lf (.rw [.i .u64, .i .u64])), (26, .lf (.i .i64)), (27, .lf (.i .i64))], zT.l1 k⟩]
theorem zaK.ok : Fo 113 (sg [.lf (.is .u32)] [.lf (.b)]) fun _ => zaK.f := fo 20 Tryz.func113 .z
theorem zdf.ok : Fo 114 (sg [.lf (.i .i64)] [.lf (.b)]) fun _ => zdf.f := fo 9 Tryz.func114 .z
theorem zS.ok : Fo 71 (sg [.ag [.b, .is .u32, .i .i64]] [.lf (.b)]) fun _ => zS.f := fo 30 Tryz.func71 (.o zaK.ok (.o zdf.ok .z))
theorem za5.ok : Fo 72 (sg [.ag [.b, .is .u32, .i .i64]] [.lf (.i .i64)]) za5.f := fo 16 Tryz.func72 (.o zS.ok .z) [[tt, ff, ff, tt]] fun k => [⟨[(1, .bx [.b, .is .u32, .i .i64]), (3, .lf (.b))], za5.j0 k⟩]
theorem zu.ok : Fo 27 (sg [.lf (.i .u8), .ag [.i .u64, .i .u64], .lf (.i .i64), .ag [.b, .is .u32, .i .i64], .ag [.b, .is .u32, .i .i64], .ag [.b, .is .u32, .i .i64]] [.lf (.i .i64)]) zu.f := fo 75 Tryz.func27 (.o zT.ok (.o zS.ok (.o za5.ok .z))) [[tt, tt, tt, tt, ff, tt, ff], [tt, tt, tt, ff, ff, tt]] fun k => [⟨[(56, .ag [.b, .is .u32, .i .i64, .b, .is .u32, .i .i64, .b, .is .u32, .i .i64]), (57, .lf (.i .i64))], zu.l0 k⟩, ⟨[(9, .bx [.b, .is .u32, .i .i64]), (10, .bx [.b, .is .u32, .i .i64]), (11, .bx [.b, .is .u32, .i .i64]), (13, .lf (.i .i64)), (27, .lf (.b))], zu.j2 k⟩]
theorem zcT.ok : Fo 88 (sg [.lf (.i .u8), .lf (.i .u64)] [.ag [.i .i64, .i .i64, .i .u64], .lf (.i .i64)]) zcT.f := fo 25 Tryz.func88 (.o zaL.ok (.o zcU.ok .z))
theorem zcW.ok : Fo 89 (sg [.ag [.i .i64, .i .i64, .i .u64], .lf (.i .u64)] [.ag [.b, .i .i64, .i .u64]]) fun _ => zcW.f := fo 27 Tryz.func89 .z
theorem zy.ok : Fo 117 (sg [.ow .u32] [.ow .u32]) zy.f := fo 21 Tryz.func117 .z [[tt, ff, ff]] fun k => [⟨[(0, .ow .u32)], zy.l0 k⟩]
theorem zy.ok1 : Fo 117 (sg [.lf (.is .u32)] [.lf (.is .u32)]) zy.f := fo 21 Tryz.func117 .z [[tt, ff, ff]] fun k => [⟨[(0, .lf (.is .u32))], zy.l0 k⟩]
theorem zaU.ok : Fo 74 (sg [.lf (.i .u64)] [.lf (.is .u32)]) zaU.f := fo 10 Tryz.func74 (.t zy.ok zy.ok1 .z)
theorem zcV.ok : Fo 90 (sg [.ag [.i .i64, .i .i64, .i .u64]] [.lf (.i .i64)]) fun _ => zcV.f := fo 10 Tryz.func90 .z
theorem zaD.ok : Fo 115 (sg [.lf (.is .u32)] [.lf (.i .i64)]) zaD.f := fo 23 Tryz.func115 (.o zaK.ok (.o za2.ok .z)) [[tt, tt, ff, tt, ff]] fun k => [⟨[(8, .lf (.is .u32)), (9, .lf (.i .i64)), (10, .lf (.i .i64))], zaD.l0 k⟩]
theorem za9.ok : Fo 142 (sg [.lf (.is .u32), .lf (.i .i64)] [.lf (.is .u32)]) za9.f := fo 60 Tryz.func142 (.t zy.ok zy.ok1 .z) [[tt, tt, tt, tt, tt, ff, tt, ff]] fun k => [⟨[(0, .lf (.is .u32)), (5, .lf (.i .i64)), (6, .ow .u32), (23, .lf (.is .u32)), (24, .lf (.i .i64)), (25, .lf (.i .i64))], za9.l0 k⟩]
theorem zas.ok : Fo 149 (sg [.lf (.i .u32)] [.lf (.i .i64)]) zas.f := fo 19 Tryz.func149 .z [[tt, tt], [tt, tt, tt]] fun k => [⟨[(0, .lf (.i .u32)), (2, .lf (.i .i64))], zas.j0 k⟩, ⟨[(0, .lf (.i .u32)), (2, .lf (.i .i64))], zas.j1 k⟩]
theorem zaC.ok : Fo 124 (sg [.lf (.is .u32)] [.lf (.i .i64)]) zaC.f := fo 23 Tryz.func124 (.o zaK.ok (.o zas.ok .z))
theorem zbo.ok : Fo 143 (sg [.lf (.is .u32), .lf (.i .i64)] [.ow .u32]) zbo.f := fo 50 Tryz.func143 (.t zy.ok zy.ok1 .z) [[tt, tt, tt, tt, ff, tt, ff]] fun k => [⟨[(5, .ow .u32), (6, .lf (.i .i64)), (7, .lf (.i .u32)), (24, .lf (.is .u32)), (25, .lf (.i .i64)), (26, .lf (.i .i64))], zbo.l0 k⟩]
theorem zaw.ok : Fo 116 (sg [.lf (.is .u32), .lf (.i .i64)] [.lf (.is .u32), .lf (.b), .lf (.i .i64)]) zaw.f := fo 39 Tryz.func116 (.o zaK.ok (.o zaD.ok (.o zaC.ok (.o za9.ok (.o zbo.ok .z)))))
theorem zai.ok : Fo 73 (sg [.lf (.b), .lf (.is .u32), .lf (.i .i64)] [.ag [.b, .is .u32, .i .i64], .lf (.i .i64)]) zai.f := fo 47 Tryz.func73 (.o zaK.ok (.o zaD.ok (.o zaw.ok .z)))
theorem zbr.ok : Fo 96 (sg [.lf (.i .u8), .lf (.i .u64)] [.ag [.b, .is .u32, .i .i64], .lf (.i .i64)]) zbr.f := fo 47 Tryz.func96 (.o zai.ok (.o zaU.ok (.o zcT.ok (.o zcW.ok (.o zcV.ok .z))))) [[tt, tt, tt, tt, tt]] fun k => [⟨[(4, .bx [.b, .is .u32, .i .i64]), (6, .bx [.i .i64, .i .i64, .i .u64]), (8, .bx [.b, .i .i64, .i .u64])], zbr.j1 k⟩]
theorem zbm.ok : Fo 54 (sg [.lf (.i .u8), .ag [.i .u64, .i .u64]] [.ag [.b, .is .u32, .i .i64, .b, .is .u32, .i .i64]]) zbm.f := fo 26 Tryz.func54 (.o zbr.ok .z)
theorem zap.ok : Fo 93 (sg [.lf (.rw [.b, .is .u32, .i .i64])] [.lf (.b)]) zap.f := fo 15 Tryz.func93 (.o zS.ok .z) [[tt, ff, tt, ff]] fun k => [⟨[(5, .lf (.rw [.b, .is .u32, .i .i64])), (6, .lf (.i .i64)), (7, .lf (.i .i64))], zap.l0 k⟩]
theorem zar.ok : Fo 146 (sg [.lf (.rw [.is .u32])] [.lf (.b)]) zar.f := fo 15 Tryz.func146 (.o zaK.ok .z) [[tt, ff, tt, ff]] fun k => [⟨[(5, .lf (.rw [.is .u32])), (6, .lf (.i .i64)), (7, .lf (.i .i64))], zar.l0 k⟩]
theorem zU.ok : Fo 148 (sg [.lf (.is .u32), .lf (.is .u32)] [.lf (.is .u32)]) zU.f := fo 68 Tryz.func148 (.t zy.ok zy.ok1 .z) [[tt, tt, ff, tt, ff], [tt, tt, ff, tt, ff, ff, tt, tt, ff, ff, tt, tt, ff, tt, ff]] fun k => [⟨[(1, .lf (.is .u32)), (5, .ow .u32), (18, .lf (.is .u32)), (19, .lf (.i .i64)), (20, .lf (.i .i64))], zU.l0 k⟩, ⟨[(1, .lf (.is .u32)), (5, .ow .u32), (6, .lf (.i .i64)), (7, .lf (.i .u32)), (8, .lf (.i .u64)), (18, .lf (.is .u32)), (19, .lf (.i .i64)), (20, .lf (.i .i64)), (25, .lf (.is .u32)), (26, .lf (.i .i64)), (27, .lf (.i .i64))], zU.l1 k⟩]
theorem zaV.ok : Fo 147 (sg [.ow .u32] [.ow .u32, .lf (.i .i64)]) fun _ => zaV.f := fo 8 Tryz.func147 .z
theorem zaV.ok1 : Fo 147 (sg [.lf (.is .u32)] [.lf (.is .u32), .lf (.i .i64)]) fun _ => zaV.f := fo 8 Tryz.func147 .z
theorem zdN.ok : Fo 122 (sg [.lf (.is .u32), .lf (.is .u32)] [.lf (.is .u32), .lf (.i .i64)]) zdN.f := fo 34 Tryz.func122 (.o zar.ok (.t zaV.ok zaV.ok1 (.o zU.ok .z)))
theorem zde.ok : Fo 92 (sg [.ag [.b, .is .u32, .i .i64], .ag [.b, .is .u32, .i .i64]] [.ag [.b, .is .u32, .i .i64], .lf (.i .i64)]) zde.f := fo 40 Tryz.func92 (.o zai.ok (.o zap.ok (.o zdN.ok .z)))
theorem zE.ok : Fo 46 (sg [.ag [.b, .is .u32, .i .i64], .ag [.b, .is .u32, .i .i64]] [.ag [.b, .is .u32, .i .i64]]) zE.f := fo 14 Tryz.func46 (.o zde.ok .z)
theorem zbO.ok : Fo 91 (sg [.ag [.b, .is .u32, .i .i64]] [.ag [.b, .is .u32, .i .i64]]) fun _ => zbO.f := fo 8 Tryz.func91 .z
theorem zdI.ok : Fo 128 (sg [.ag [.b, .is .u32, .i .i64], .lf (.b)] [.ag [.b, .is .u32, .i .i64]]) fun _ => zdI.f := fo 16 Tryz.func128 (.o zbO.ok .z)
theorem zaW.ok : Fo 150 (sg [.lf (.is .u32), .lf (.is .u32)] [.lf (.i .i64)]) zaW.f := fo 43 Tryz.func150 .z [[tt, tt, ff, tt, ff]] fun k => [⟨[(0, .lf (.is .u32)), (1, .lf (.is .u32)), (5, .lf (.i .i64))], zaW.l0 k⟩]
theorem zc2.ok : Fo 169 (sg [.lf (.i .u32), .lf (.i .u32), .lf (.i .u32)] [.lf (.i .u32), .lf (.i .u32)]) fun _ => zc2.f := fo 25 Tryz.func169 .z
theorem zak.ok : Fo 167 (sg [.lf (.is .u32), .lf (.is .u32)] [.lf (.is .u32)]) zak.f := fo 41 Tryz.func167 (.t zy.ok zy.ok1 (.o zc2.ok .z)) [[tt, tt, tt, ff, tt, ff], [tt, tt, tt, ff, tt, ff, ff, tt, tt, ff, ff, tt, tt, tt]] fun k => [⟨[(0, .lf (.is .u32)), (1, .lf (.is .u32)), (5, .ow .u32), (6, .lf (.i .u32)), (13, .lf (.i .i64)), (14, .lf (.i .i64))], zak.l0 k⟩, ⟨[(0, .lf (.is .u32)), (1, .lf (.is .u32)), (5, .ow .u32), (6, .lf (.i .u32)), (7, .lf (.i .i64)), (8, .lf (.i .u32)), (13, .lf (.i .i64)), (14, .lf (.i .i64))], zak.j1 k⟩]
theorem zb8.ok : Fo 163 (sg [.lf (.is .u32), .lf (.is .u32)] [.lf (.is .u32), .lf (.i .i64)]) zb8.f := fo 18 Tryz.func163 (.o zar.ok (.o zaW.ok (.o zak.ok .z)))
theorem zc1.ok : Fo 168 (sg [.lf (.i .u32), .lf (.i .u32), .lf (.i .u32)] [.lf (.i .u32), .lf (.i .u32)]) fun _ => zc1.f := fo 22 Tryz.func168 .z
theorem zz.ok : Fo 164 (sg [.lf (.is .u32), .lf (.is .u32)] [.lf (.is .u32), .lf (.i .i64)]) zz.f := fo 63 Tryz.func164 (.t zy.ok zy.ok1 (.o zar.ok (.t zaV.ok zaV.ok1 (.o zc1.ok .z)))) [[tt, tt, tt, tt, tt, ff, tt, ff], [tt, tt, tt], [tt, tt, tt, tt, tt, ff, tt, ff, ff, tt, tt, ff, ff, tt, tt, tt]] fun k => [⟨[(0, .lf (.is .u32)), (1, .lf (.is .u32)), (6, .ow .u32), (7, .lf (.i .u32)), (27, .lf (.i .i64)), (28, .lf (.i .i64))], zz.l0 k⟩, ⟨[(0, .lf (.is .u32)), (1, .lf (.is .u32))], zz.j1 k⟩, ⟨[(0, .lf (.is .u32)), (1, .lf (.is .u32)), (6, .ow .u32), (7, .lf (.i .u32)), (8, .lf (.i .i64)), (9, .lf (.i .u32)), (27, .lf (.i .i64)), (28, .lf (.i .i64))], zz.j3 k⟩]
theorem zeM.ok : Fo 151 (sg [.ag [.b, .is .u32, .i .i64], .ag [.b, .is .u32, .i .i64], .lf (.i .i64)] [.ag [.b, .is .u32, .i .i64], .lf (.i .i64)]) zeM.f := fo 97 Tryz.func151 (.o zai.ok (.o zaU.ok (.o zaD.ok (.o zaw.ok (.o zaC.ok (.o zb8.ok (.o zz.ok .z)))))))
theorem zcy.ok : Fo 165 (sg [.lf (.b), .lf (.is .u32), .lf (.is .u32), .lf (.i .i64)] [.ag [.b, .is .u32, .i .i64], .lf (.i .i64)]) zcy.f := fo 64 Tryz.func165 (.o zai.ok (.o zaU.ok (.o zaw.ok (.o zz.ok .z)))) [[tt, tt, tt, tt, tt, tt]] fun k => [⟨[(0, .lf (.b)), (3, .lf (.i .i64)), (8, .bx [.b, .is .u32, .i .i64]), (16, .lf (.is .u32))], zcy.j1 k⟩]
theorem zcH.ok : Fo 125 (sg [.lf (.is .u32), .lf (.is .u32)] [.lf (.i .i64), .lf (.i .i64)]) zcH.f := fo 14 Tryz.func125 (.o zar.ok (.o zaW.ok .z))
theorem zbl.ok : Fo 152 (sg [.lf (.b), .lf (.is .u32), .lf (.b), .lf (.is .u32), .lf (.i .i64)] [.ag [.b, .is .u32, .i .i64], .lf (.i .i64)]) zbl.f := fo 65 Tryz.func152 (.o zai.ok (.o zcH.ok (.o zb8.ok (.o zz.ok (.o zcy.ok .z))))) [[tt, tt, tt]] fun k => [⟨[(0, .lf (.b)), (1, .lf (.is .u32)), (3, .lf (.is .u32)), (4, .lf (.i .i64)), (10, .bx [.b, .is .u32, .i .i64])], zbl.j2 k⟩]
theorem zav.ok : Fo 127 (sg [.ag [.b, .is .u32, .i .i64], .ag [.b, .is .u32, .i .i64]] [.ag [.b, .is .u32, .i .i64], .lf (.i .i64)]) zav.f := fo 79 Tryz.func127 (.o zbO.ok (.o zaw.ok (.o zaC.ok (.o zeM.ok (.o zbl.ok .z))))) [[tt, tt, tt]] fun k => [⟨[(2, .bx [.b, .is .u32, .i .i64]), (3, .bx [.b, .is .u32, .i .i64]), (4, .bx [.b, .is .u32, .i .i64])], zav.j1 k⟩]
theorem zb4.ok : Fo 97 (sg [.ag [.b, .is .u32, .i .i64], .ag [.b, .is .u32, .i .i64]] [.ag [.b, .is .u32, .i .i64], .lf (.i .i64)]) zb4.f := fo 21 Tryz.func97 (.o zap.ok (.o zav.ok (.o zdI.ok .z)))
theorem za8.ok : Fo 55 (sg [.ag [.b, .is .u32, .i .i64], .ag [.b, .is .u32, .i .i64]] [.ag [.b, .is .u32, .i .i64]]) za8.f := fo 14 Tryz.func55 (.o zb4.ok .z)
theorem zb2.ok : Fo 98 (sg [.ag [.b, .is .u32, .i .i64], .ag [.b, .is .u32, .i .i64]] [.ag [.b, .is .u32, .i .i64], .lf (.i .i64)]) zb2.f := fo 17 Tryz.func98 (.o zap.ok (.o zav.ok .z))
theorem zbE.ok : Fo 56 (sg [.ag [.b, .is .u32, .i .i64], .ag [.b, .is .u32, .i .i64]] [.ag [.b, .is .u32, .i .i64]]) zbE.f := fo 14 Tryz.func56 (.o zb2.ok .z)
theorem zbn.ok : Fo 48 (sg [.ag [.b, .is .u32, .i .i64, .b, .is .u32, .i .i64]] [.ag [.b, .is .u32, .i .i64]]) zbn.f := fo 14 Tryz.func48 (.o zE.ok (.o zbE.ok .z))
theorem zdh.ok : Fo 45 (sg [.lf (.i .u8)] [.lf (.i .i64)]) fun _ => zdh.f := fo 5 Tryz.func45 .z
theorem zb3.ok : Fo 44 (sg [.ag [.b, .is .u32, .i .i64], .lf (.i .i64)] [.ag [.b, .is .u32, .i .i64], .lf (.i .i64)]) fun _ => zb3.f := fo 39 Tryz.func44 (.o zS.ok (.o zbO.ok .z))
theorem zcA.ok : Fo 28 (sg [.lf (.i .u8), .ag [.i .u64, .i .u64], .ag [.b, .is .u32, .i .i64], .ag [.b, .is .u32, .i .i64], .ag [.b, .is .u32, .i .i64]] [.ag [.b, .is .u32, .i .i64], .ag [.b, .is .u32, .i .i64]]) zcA.f := fo 44 Tryz.func28 (.o zb3.ok (.o zdh.ok (.o zE.ok (.o zbn.ok (.o zbm.ok (.o za8.ok .z))))))
theorem zcf.ok : Fo 123 (sg [.ag [.b, .is .u32, .i .i64]] [.lf (.i .i64)]) zcf.f := fo 18 Tryz.func123 (.o zS.ok (.o zaC.ok .z))
theorem zaS.ok : Fo 94 (sg [.ag [.b, .is .u32, .i .i64], .ag [.b, .is .u32, .i .i64]] [.lf (.i .i64)]) zaS.f := fo 55 Tryz.func94 (.o zaw.ok (.o zcf.ok (.o zaC.ok (.o zcH.ok .z)))) [[tt, tt, tt, tt]] fun k => [⟨[(5, .lf (.is .u32)), (6, .lf (.is .u32))], zaS.j1 k⟩]
theorem zce.ok : Fo 47 (sg [.ag [.b, .is .u32, .i .i64], .ag [.b, .is .u32, .i .i64]] [.lf (.i .i64), .lf (.i .i64)]) zce.f := fo 30 Tryz.func47 (.o za5.ok (.o zap.ok (.o zaS.ok .z)))
theorem zch.ok : Fo 29 (sg [.ag [.b, .is .u32, .i .i64], .ag [.b, .is .u32, .i .i64], .lf (.i .u64)] [.lf (.b)]) zch.f := fo 29 Tryz.func29 (.o zE.ok (.o zce.ok (.o zai.ok (.o zaU.ok .z))))
theorem zcg.ok : Fo 10 (sg [.lf (.i .u8), .ag [.i .u64, .i .u64], .ag [.b, .is .u32, .i .i64], .ag [.b, .is .u32, .i .i64], .ag [.b, .is .u32, .i .i64]] [.lf (.i .u64), .lf (.i .i64)]) zcg.f := fo 56 Tryz.func10 (.o zu.ok (.o zcA.ok (.o zch.ok .z))) [[tt, tt, tt, tt, tt, ff, ff]] fun k => [⟨[(13, .bx [.b, .is .u32, .i .i64]), (14, .bx [.b, .is .u32, .i .i64]), (15, .lf (.i .u64)), (16, .lf (.i .u64))], zcg.l0 k⟩]
theorem zcz.ok : Fo 9 (sg [.lf (.i .u8), .ag [.i .u64, .i .u64], .ag [.b, .is .u32, .i .i64], .ag [.b, .is .u32, .i .i64], .ag [.b, .is .u32, .i .i64], .lf (.i .i64)] [.lf (.b), .lf (.i .i64)]) zcz.f := fo 41 Tryz.func9 (.o zu.ok (.o zcA.ok (.o zch.ok .z)))
theorem zby.ok : Fo 8 (sg [] [.lf (.b)]) zby.f := fo 35 Tryz.func8 (.o zcz.ok (.o zcg.ok (.o zaa.ok .z)))
theorem zdg.ok : Fo 16 (sg [.lf (.i .u8), .ag [.i .u64, .i .u64], .ag [.i .u64, .i .u64]] [.ag [.b, .is .u32, .i .i64], .ag [.b, .is .u32, .i .i64], .lf (.i .i64)]) zdg.f := fo 50 Tryz.func16 (.o zE.ok (.o zT.ok (.o zbm.ok (.o za8.ok (.o zbE.ok .z)))))
theorem zbg.ok : Fo 136 (sg [.lf (.i .u8), .ag [.b, .i .i64, .i .u64]] [.lf (.i .u64)]) fun _ => zbg.f := fo 22 Tryz.func136 (.o zan.ok (.o zbh.ok .z))
theorem zaQ.ok : Fo 131 (sg [.lf (.i .u8)] [.lf (.i .u64)]) fun _ => zaQ.f := fo 12 Tryz.func131 (.o zan.ok (.o zbB.ok (.o zbg.ok .z)))
theorem zcx.ok : Fo 104 (sg [.lf (.i .u8), .lf (.i .u8)] [.ag [.i .u64, .i .u64, .i .u8, .i .u8]]) fun _ => zcx.f := fo 13 Tryz.func104 (.o zaQ.ok .z)
theorem zdE.ok : Fo 111 (sg [.lf (.i .u8), .lf (.b)] [.lf (.i .u64)]) fun _ => zdE.f := fo 12 Tryz.func111 (.o zbB.ok (.o zbg.ok .z))
theorem zab.ok : Fo 109 (sg [.lf (.i .u8), .lf (.i .u64), .lf (.b)] [.lf (.i .u64)]) fun _ => zab.f := fo 17 Tryz.func109 (.o zbh.ok .z)
theorem zbM.ok : Fo 135 (sg [.lf (.i .u8), .lf (.i .u64), .lf (.b)] [.lf (.i .u64)]) zbM.f := fo 25 Tryz.func135 (.o zG.ok (.o zau.ok (.o zab.ok (.o zdE.ok .z)))) [[tt, tt]] fun k => [⟨[(0, .lf (.i .u8)), (2, .lf (.b)), (7, .lf (.b))], zbM.j0 k⟩]
theorem zcw.ok : Fo 107 (sg [.lf (.i .u8), .ag [.i .u64, .i .u64]] [.ag [.i .u64, .i .u64]]) zcw.f := fo 47 Tryz.func107 (.o za4.ok (.o zG.ok (.o zbM.ok .z)))
theorem zbZ.ok : Fo 153 (sg [.lf (.i .u8), .lf (.i .u64)] [.lf (.b)]) fun _ => zbZ.f := fo 9 Tryz.func153 (.o zG.ok .z)
theorem zbj.ok : Fo 154 (sg [.lf (.i .u8), .lf (.i .u64)] [.lf (.b)]) fun _ => zbj.f := fo 9 Tryz.func154 (.o zG.ok .z)
theorem zb0.ok : Fo 155 (sg [.lf (.i .u8), .lf (.i .u64)] [.lf (.b)]) fun _ => zb0.f := fo 9 Tryz.func155 (.o zG.ok .z)
theorem zc9.ok : Fo 156 (sg [.lf (.i .u8), .lf (.i .u64)] [.lf (.b)]) fun _ => zc9.f := fo 9 Tryz.func156 (.o zbh.ok .z)
theorem zbf.ok : Fo 108 (sg [.lf (.i .u8), .lf (.b)] [.lf (.i .u64)]) fun _ => zbf.f := fo 11 Tryz.func108 (.o zbB.ok (.o zbg.ok .z))
theorem zaP.ok : Fo 50 (sg [.lf (.i .u8)] [.lf (.i .i64)]) fun _ => zaP.f := fo 5 Tryz.func50 .z
theorem zao.ok : Fo 77 (sg [.lf (.i .u8), .lf (.i .u64)] [.ag [.b, .is .u32, .i .i64]]) zao.f := fo 36 Tryz.func77 (.o zaP.ok (.o zan.ok (.o zX.ok (.o zbK.ok (.o zau.ok .z)))))
theorem zC.ok : Fo 79 (sg [.lf (.is .u32), .lf (.is .u32)] [.lf (.is .u32)]) zC.f := fo 85 Tryz.func79 (.t zt.ok zt.ok1 .z) [[tt, tt, tt, tt, tt, ff, tt, ff], [tt, tt, tt, tt, tt, ff, tt, ff, ff, tt, ff, ff, tt, tt, ff, tt, ff], [tt, tt, tt, tt, tt, ff, tt, ff, ff, tt, ff, ff, tt, tt]] fun k => [⟨[(0, .lf (.is .u32)), (1, .lf (.is .u32)), (5, .ow .u32), (6, .lf (.i .u64)), (7, .lf (.i .u64)), (8, .lf (.i .i64))], zC.l0 k⟩, ⟨[(0, .lf (.is .u32)), (1, .lf (.is .u32)), (5, .ow .u32), (6, .lf (.i .u64)), (7, .lf (.i .u64)), (8, .lf (.i .i64)), (10, .lf (.i .i64))], zC.l1 k⟩, ⟨[(0, .lf (.is .u32)), (1, .lf (.is .u32)), (5, .ow .u32), (6, .lf (.i .u64)), (7, .lf (.i .u64)), (8, .lf (.i .i64)), (9, .lf (.i .i64))], zC.j3 k⟩]
theorem zbe.ok : Fo 35 (sg [.ag [.b, .is .u32, .i .i64], .ag [.b, .is .u32, .i .i64]] [.ag [.b, .is .u32, .i .i64]]) zbe.f := fo 21 Tryz.func35 (.o zX.ok (.o zC.ok .z))
theorem z7.ok : Fo 31 (sg [.ag [.b, .is .u32, .i .i64]] [.lf (.i .i64)]) fun _ => z7.f := fo 9 Tryz.func31 .z
theorem zat.ok : Fo 36 (sg [.ag [.b, .is .u32, .i .i64]] [.lf (.i .i64)]) zat.f := fo 13 Tryz.func36 (.o zQ.ok .z)
theorem zbL.ok : Fo 78 (sg [.ag [.b, .is .u32, .i .i64], .lf (.i .i64)] [.ag [.b, .is .u32, .i .i64]]) fun _ => zbL.f := fo 15 Tryz.func78 .z
theorem zx.ok : Fo 42 (sg [.lf (.is .u32), .lf (.is .u32)] [.lf (.is .u32)]) zx.f := fo 55 Tryz.func42 (.t zt.ok zt.ok1 .z) [[tt, tt, tt, ff, tt, ff], [tt, tt, tt, ff, tt, ff, ff, tt, ff, ff, tt], [tt, tt, tt, ff, tt, ff, ff, tt, ff, ff, tt, tt]] fun k => [⟨[(0, .lf (.is .u32)), (1, .lf (.is .u32)), (5, .ow .u32), (6, .lf (.i .u64)), (7, .lf (.i .i64))], zx.l0 k⟩, ⟨[(0, .lf (.is .u32)), (1, .lf (.is .u32)), (5, .ow .u32), (6, .lf (.i .u64)), (7, .lf (.i .i64))], zx.j2 k⟩, ⟨[(0, .lf (.is .u32)), (1, .lf (.is .u32)), (5, .ow .u32), (6, .lf (.i .u64)), (7, .lf (.i .i64))], zx.j3 k⟩]
theorem zcr.ok : Fo 38 (sg [.ag [.b, .is .u32, .i .i64]] [.ag [.b, .is .u32, .i .i64]]) zcr.f := fo 30 Tryz.func38 (.o zx.ok (.o zX.ok (.o z6.ok .z)))
theorem zbc.ok : Fo 62 (sg [.lf (.is .u32), .lf (.is .u32)] [.lf (.b)]) zbc.f := fo 26 Tryz.func62 .z [[tt, tt, ff, tt, ff]] fun k => [⟨[(0, .lf (.is .u32)), (1, .lf (.is .u32)), (5, .lf (.i .i64))], zbc.l0 k⟩]
theorem zbY.ok : Fo 21 (sg [.ag [.b, .is .u32, .i .i64], .ag [.b, .is .u32, .i .i64]] [.lf (.b)]) zbY.f := fo 24 Tryz.func21 (.o zbc.ok .z)
theorem zcs.ok : Fo 49 (sg [.lf (.i .i64)] [.ag [.b, .is .u32, .i .i64]]) fun _ => zcs.f := fo 6 Tryz.func49 .z
theorem zaf.ok : Fo 41 (sg [.lf (.is .u32), .lf (.i .i64)] [.lf (.is .u32)]) zaf.f := fo 45 Tryz.func41 (.t zt.ok zt.ok1 .z) [[tt, tt, tt, tt, tt, ff, tt, ff]] fun k => [⟨[(0, .lf (.is .u32)), (5, .ow .u32), (6, .lf (.i .i64)), (7, .lf (.i .u64)), (8, .lf (.i .i64))], zaf.l0 k⟩]
theorem zaO.ok : Fo 84 (sg [.lf (.is .u32), .lf (.is .u32)] [.lf (.i .i64)]) zaO.f := fo 41 Tryz.func84 .z [[tt, tt, ff, tt, ff]] fun k => [⟨[(0, .lf (.is .u32)), (1, .lf (.is .u32)), (5, .lf (.i .i64))], zaO.l0 k⟩]
theorem zA.ok : Fo 85 (sg [.lf (.is .u32), .lf (.is .u32)] [.lf (.is .u32)]) zA.f := fo 47 Tryz.func85 (.t zt.ok zt.ok1 .z) [[tt, tt, tt, ff, tt, ff], [tt, tt, tt, ff, tt, ff, ff, tt, ff, ff, tt, tt], [tt, tt, tt, ff, tt, ff, ff, tt, ff, ff, tt, tt, tt, tt, tt]] fun k => [⟨[(0, .lf (.is .u32)), (1, .lf (.is .u32)), (5, .ow .u32), (6, .lf (.i .u64)), (7, .lf (.i .i64))], zA.l0 k⟩, ⟨[(0, .lf (.is .u32)), (1, .lf (.is .u32)), (5, .ow .u32), (7, .lf (.i .i64)), (8, .lf (.i .u64))], zA.j1 k⟩, ⟨[(0, .lf (.is .u32)), (1, .lf (.is .u32)), (5, .ow .u32), (6, .lf (.i .u64)), (7, .lf (.i .i64)), (8, .lf (.i .u64)), (9, .lf (.i .u64))], zA.j2 k⟩]
theorem zL.ok : Fo 39 (sg [.ag [.b, .is .u32, .i .i64], .ag [.b, .is .u32, .i .i64]] [.ag [.b, .is .u32, .i .i64]]) zL.f := fo 70 Tryz.func39 (.o zaf.ok (.o zx.ok (.o zX.ok (.o zaO.ok (.o zA.ok .z))))) [[tt, tt, tt, tt, tt]] fun k => [⟨[(2, .bx [.b, .is .u32, .i .i64]), (3, .bx [.b, .is .u32, .i .i64]), (4, .bx [.b, .is .u32, .i .i64]), (5, .lf (.i .i64))], zL.j2 k⟩]
theorem zcd.ok : Fo 118 (sg [.ag [.b, .is .u32, .i .i64]] [.ag [.b, .is .u32, .i .i64]]) fun _ => zcd.f := fo 12 Tryz.func118 .z
theorem zbA.ok : Fo 76 (sg [.ag [.b, .is .u32, .i .i64], .ag [.b, .is .u32, .i .i64]] [.ag [.b, .is .u32, .i .i64]]) zbA.f := fo 9 Tryz.func76 (.o zL.ok (.o zcd.ok .z))
theorem zc3.ok : Fo 34 (sg [.ag [.b, .is .u32, .i .i64], .ag [.b, .is .u32, .i .i64]] [.lf (.i .i64)]) zc3.f := fo 36 Tryz.func34 (.o z7.ok (.o zat.ok (.o zbA.ok .z)))
theorem zc8.ok : Fo 166 (sg [.ag [.b, .is .u32, .i .i64]] [.ag [.b, .is .u32, .i .i64]]) fun _ => zc8.f := fo 5 Tryz.func166 (.o zbL.ok .z)
theorem zbi.ok : Fo 158 (sg [.lf (.i .u8), .ag [.b, .is .u32, .i .i64], .lf (.i .i64)] [.ag [.b, .is .u32, .i .i64]]) zbi.f := fo 71 Tryz.func158 (.o zbY.ok (.o zc3.ok (.o zcr.ok (.o zL.ok (.o zcs.ok (.o zbA.ok (.o zbL.ok (.o zc8.ok .z)))))))) [[tt, tt, tt, tt, tt, tt]] fun k => [⟨[(0, .lf (.i .u8)), (2, .lf (.i .i64)), (4, .bx [.b, .is .u32, .i .i64]), (6, .bx [.b, .is .u32, .i .i64]), (7, .bx [.b, .is .u32, .i .i64]), (8, .bx [.b, .is .u32, .i .i64]), (9, .bx [.b, .is .u32, .i .i64]), (10, .bx [.b, .is .u32, .i .i64])], zbi.j1 k⟩]
theorem zc7.ok : Fo 159 (sg [.lf (.i .u8)] [.lf (.i .i64)]) fun _ => zc7.f := fo 5 Tryz.func159 .z
theorem zaF.ok : Fo 160 (sg [.lf (.i .u8), .lf (.i .u8), .lf (.b)] [.lf (.i .u64)]) zaF.f := fo 31 Tryz.func160 (.o zbf.ok .z) [[tt, ff, tt]] fun k => [⟨[(0, .lf (.i .u8)), (2, .lf (.b)), (23, .lf (.b))], zaF.j0 k⟩]
theorem zd2.ok : Fo 162 (sg [.ag [.b, .is .u32, .i .i64]] [.ag [.b, .is .u32, .i .i64]]) fun _ => zd2.f := fo 5 Tryz.func162 .z
theorem zag.ok : Fo 161 (sg [.lf (.i .u8), .ag [.b, .is .u32, .i .i64]] [.lf (.i .u64), .lf (.b)]) zag.f := fo 92 Tryz.func161 (.o z7.ok (.o zat.ok (.o zaf.ok (.o zaP.ok (.o zan.ok (.o zQ.ok (.o zbg.ok (.o zc7.ok .z)))))))) [[tt, tt, tt, tt, tt, tt], [tt, tt, tt, tt, tt, tt, tt, tt, tt]] fun k => [⟨[(0, .lf (.i .u8)), (3, .bx [.b, .is .u32, .i .i64]), (7, .lf (.i .i64))], zag.j3 k⟩, ⟨[(0, .lf (.i .u8)), (3, .bx [.b, .is .u32, .i .i64]), (7, .lf (.i .i64)), (9, .lf (.i .u64))], zag.j4 k⟩]
theorem zaB.ok : Fo 137 (sg [.lf (.i .u8), .lf (.i .u8), .ag [.b, .is .u32, .i .i64]] [.lf (.i .u64), .lf (.i .u8)]) zaB.f := fo 73 Tryz.func137 (.o zbY.ok (.o z7.ok (.o zat.ok (.o zaP.ok (.o zan.ok (.o zab.ok (.o zbi.ok (.o zc7.ok (.o zaF.ok (.o zag.ok (.o zd2.ok .z))))))))))) [[tt, tt, tt, tt, tt, tt]] fun k => [⟨[(0, .lf (.i .u8)), (1, .lf (.i .u8)), (5, .bx [.b, .is .u32, .i .i64]), (8, .lf (.i .i64)), (9, .lf (.i .i64)), (10, .lf (.i .i64))], zaB.j1 k⟩]
theorem zK.ok : Fo 132 (sg [.lf (.i .u8), .lf (.i .u8), .lf (.i .u64), .lf (.i .u64)] [.lf (.i .u64), .lf (.i .u8)]) zK.f := fo 82 Tryz.func132 (.o zbe.ok (.o zao.ok (.o zbf.ok (.o zab.ok (.o zaQ.ok (.o zaB.ok (.o zbZ.ok (.o zbj.ok (.o zb0.ok (.o zc9.ok .z)))))))))) [[tt, ff, tt], [tt, tt, ff, tt], [tt, tt, tt, tt, ff, tt], [tt, tt, tt, tt, tt, ff, tt]] fun k => [⟨[(0, .lf (.i .u8)), (1, .lf (.i .u8)), (2, .lf (.i .u64)), (3, .lf (.i .u64)), (18, .lf (.b))], zK.j0 k⟩, ⟨[(0, .lf (.i .u8)), (1, .lf (.i .u8)), (2, .lf (.i .u64)), (3, .lf (.i .u64)), (38, .lf (.b))], zK.j2 k⟩, ⟨[(0, .lf (.i .u8)), (1, .lf (.i .u8)), (2, .lf (.i .u64)), (3, .lf (.i .u64)), (10, .lf (.b)), (55, .lf (.b))], zK.j4 k⟩, ⟨[(0, .lf (.i .u8)), (1, .lf (.i .u8)), (2, .lf (.i .u64)), (3, .lf (.i .u64)), (10, .lf (.b)), (66, .lf (.b))], zK.j6 k⟩]
theorem zd3.ok : Fo 157 (sg [.lf (.i .u8), .lf (.i .u8)] [.lf (.i .u64)]) fun _ => zd3.f := fo 9 Tryz.func157 (.o zab.ok .z)
theorem za3.ok : Fo 134 (sg [.lf (.i .u8), .lf (.i .u8), .lf (.i .u64), .lf (.i .u64)] [.lf (.i .u64), .lf (.i .u8)]) za3.f := fo 71 Tryz.func134 (.o z7.ok (.o zL.ok (.o zao.ok (.o zaQ.ok (.o zaB.ok (.o zbZ.ok (.o zbj.ok (.o zb0.ok (.o zd3.ok .z))))))))) [[tt, ff, tt], [tt, tt, ff, tt]] fun k => [⟨[(0, .lf (.i .u8)), (1, .lf (.i .u8)), (2, .lf (.i .u64)), (3, .lf (.i .u64)), (18, .lf (.b))], za3.j0 k⟩, ⟨[(0, .lf (.i .u8)), (1, .lf (.i .u8)), (2, .lf (.i .u64)), (3, .lf (.i .u64)), (28, .lf (.b))], za3.j2 k⟩]
theorem zcv.ok : Fo 133 (sg [.lf (.i .u8), .lf (.i .u8), .lf (.i .u64), .lf (.i .u64)] [.lf (.i .u64), .lf (.i .u8)]) zcv.f := fo 28 Tryz.func133 (.o zab.ok (.o za3.ok (.o zbZ.ok (.o zc9.ok .z)))) [[tt, tt]] fun k => [⟨[(0, .lf (.i .u8)), (1, .lf (.i .u8)), (2, .lf (.i .u64)), (3, .lf (.i .u64))], zcv.j0 k⟩]
theorem zdF.ok : Fo 106 (sg [.lf (.i .u8), .lf (.i .u8), .ag [.i .u64, .i .u64], .ag [.i .u64, .i .u64]] [.ag [.i .u64, .i .u64]]) zdF.f := fo 80 Tryz.func106 (.o zK.ok (.o zcv.ok (.o za3.ok .z)))
theorem zbC.ok : Fo 105 (sg [.lf (.i .u8), .ag [.i .u64, .i .u64], .lf (.i .u64)] [.ag [.i .u64, .i .u64]]) zbC.f := fo 45 Tryz.func105 (.o zG.ok (.o zau.ok (.o zab.ok .z))) [[tt, tt, ff, tt, ff]] fun k => [⟨[(0, .lf (.i .u8)), (2, .lf (.i .u64)), (6, .bx [.i .u64, .i .u64]), (7, .ow .u64), (8, .lf (.i .i64))], zbC.l0 k⟩]
theorem zaG.ok : Fo 67 (sg [.lf (.i .u8), .lf (.i .u8), .ag [.i .u64, .i .u64], .ag [.i .u64, .i .u64]] [.ag [.i .u64, .i .u64, .i .u8, .i .u8], .lf (.b)]) zaG.f := fo 57 Tryz.func67 (.o zbk.ok (.o za4.ok (.o zcx.ok (.o zbC.ok (.o zdF.ok (.o zcw.ok (.o zbf.ok .z))))))) [[tt, tt, tt, ff, tt], [tt, tt, tt, tt, ff, tt]] fun k => [⟨[(0, .lf (.i .u8)), (1, .lf (.i .u8)), (6, .bx [.i .u64, .i .u64]), (7, .bx [.i .u64, .i .u64]), (8, .bx [.i .u64, .i .u64, .i .u8, .i .u8]), (10, .lf (.i .u8)), (11, .lf (.i .u8)), (32, .lf (.b))], zaG.j2 k⟩, ⟨[(0, .lf (.i .u8)), (1, .lf (.i .u8)), (6, .bx [.i .u64, .i .u64]), (7, .bx [.i .u64, .i .u64]), (8, .bx [.i .u64, .i .u64, .i .u8, .i .u8]), (40, .lf (.b))], zaG.j4 k⟩]
theorem zdc.ok : Fo 130 (sg [.lf (.i .u8), .lf (.i .u64)] [.lf (.b)]) fun _ => zdc.f := fo 9 Tryz.func130 (.o zau.ok .z)
theorem z8.ok : Fo 102 (sg [.lf (.i .u8), .lf (.i .u64), .lf (.i .u64), .lf (.b)] [.ag [.b, .is .u32, .i .i64, .b]]) z8.f := fo 31 Tryz.func102 (.o zbe.ok (.o zao.ok (.o zcd.ok (.o zdc.ok .z)))) [[tt, tt, tt]] fun k => [⟨[(0, .lf (.i .u8)), (1, .lf (.i .u64)), (2, .lf (.i .u64)), (3, .lf (.b)), (8, .bx [.b, .is .u32, .i .i64, .b]), (9, .bx [.b, .is .u32, .i .i64])], z8.j0 k⟩]
theorem zd4.ok : Fo 63 (sg [.lf (.i .u8), .ag [.i .u64, .i .u64], .ag [.i .u64, .i .u64]] [.ag [.b, .is .u32, .i .i64, .b, .b, .is .u32, .i .i64, .b], .ag [.b, .is .u32, .i .i64, .b, .b, .is .u32, .i .i64, .b]]) zd4.f := fo 34 Tryz.func63 (.o z8.ok .z)
theorem zR.ok : Fo 68 (sg [.lf (.i .u8), .lf (.rw [.b, .is .u32, .i .i64, .b])] [.ag [.b, .is .u32, .i .i64], .lf (.b)]) zR.f := fo 53 Tryz.func68 (.o z7.ok (.o zL.ok .z)) [[tt, tt, tt, ff, tt, ff]] fun k => [⟨[(0, .lf (.i .u8)), (1, .lf (.rw [.b, .is .u32, .i .i64, .b])), (4, .bx [.b, .is .u32, .i .i64]), (6, .bx [.b, .is .u32, .i .i64]), (7, .lf (.b)), (8, .lf (.i .i64))], zR.l0 k⟩]
theorem zbd.ok : Fo 119 (sg [.lf (.is .u32), .lf (.i .u32)] [.lf (.is .u32), .lf (.is .u32)]) zbd.f := fo 43 Tryz.func119 (.o zbK.ok (.t zt.ok zt.ok1 .z)) [[tt, tt, tt, ff, tt, ff]] fun k => [⟨[(0, .lf (.is .u32)), (1, .lf (.i .u32)), (6, .ow .u32), (7, .lf (.i .u64)), (8, .lf (.i .i64))], zbd.l0 k⟩]
theorem zae.ok : Fo 81 (sg [.lf (.is .u32), .lf (.is .u32)] [.lf (.is .u32), .lf (.is .u32)]) zae.f := fo 75 Tryz.func81 (.o zaf.ok (.o zx.ok (.o zQ.ok (.o z6.ok (.o zaO.ok (.o zA.ok (.o zcq.ok (.t zt.ok zt.ok1 (.o zbd.ok .z))))))))) [[tt, tt, tt, tt, tt, ff, tt, ff], [tt, tt, tt, tt, tt, ff, tt, ff, ff, tt, ff, ff, tt, tt]] fun k => [⟨[(0, .lf (.is .u32)), (1, .lf (.is .u32)), (6, .ow .u32), (8, .lf (.is .u32)), (10, .lf (.i .i64))], zae.l0 k⟩, ⟨[(0, .lf (.is .u32)), (1, .lf (.is .u32)), (6, .ow .u32), (8, .lf (.is .u32)), (10, .lf (.i .i64))], zae.j2 k⟩]
theorem zc4.ok : Fo 82 (sg [.ag [.b, .is .u32, .i .i64], .lf (.i .i64)] [.ag [.b, .is .u32, .i .i64], .lf (.b)]) zc4.f := fo 33 Tryz.func82 (.o zX.ok (.o zQ.ok (.o z6.ok .z)))
theorem zbz.ok : Fo 37 (sg [.ag [.b, .is .u32, .i .i64], .ag [.b, .is .u32, .i .i64], .lf (.i .i64)] [.ag [.b, .is .u32, .i .i64], .lf (.b)]) zbz.f := fo 66 Tryz.func37 (.o zaf.ok (.o zX.ok (.o zQ.ok (.o zae.ok (.o zc4.ok .z))))) [[tt, tt, tt, tt]] fun k => [⟨[(2, .lf (.i .i64)), (3, .bx [.b, .is .u32, .i .i64]), (4, .bx [.b, .is .u32, .i .i64]), (6, .bx [.b, .is .u32, .i .i64]), (8, .lf (.i .i64))], zbz.j1 k⟩]
theorem zcu.ok : Fo 138 (sg [.ag [.b, .is .u32, .i .i64], .lf (.b)] [.ag [.b, .is .u32, .i .i64]]) zcu.f := fo 22 Tryz.func138 (.o zat.ok (.o zL.ok (.o zcs.ok (.o zbA.ok .z))))
theorem zdD.ok : Fo 110 (sg [.lf (.i .u8), .lf (.i .u8), .ag [.b, .is .u32, .i .i64], .ag [.b, .is .u32, .i .i64]] [.lf (.i .u64), .lf (.i .u8)]) zdD.f := fo 26 Tryz.func110 (.o zbz.ok (.o zaB.ok (.o zcu.ok .z)))
theorem zbN.ok : Fo 69 (sg [.lf (.i .u8), .lf (.i .u8), .ag [.b, .is .u32, .i .i64], .lf (.b), .ag [.b, .is .u32, .i .i64]] [.lf (.i .u64), .lf (.i .u8)]) zbN.f := fo 25 Tryz.func69 (.o z7.ok (.o zab.ok (.o zdD.ok .z)))
theorem zdb.ok : Fo 25 (sg [.lf (.i .u8), .lf (.i .u8), .ag [.i .u64, .i .u64], .ag [.i .u64, .i .u64]] [.ag [.i .u64, .i .u64, .i .u8, .i .u8]]) zdb.f := fo 84 Tryz.func25 (.o zaa.ok (.o zd4.ok (.o zaG.ok (.o zR.ok (.o zbN.ok .z)))))
theorem za7.ok : Fo 17 (sg [.lf (.i .u8), .ag [.i .u64, .i .u64], .ag [.i .u64, .i .u64]] [.ag [.b, .is .u32, .i .i64], .ag [.b, .is .u32, .i .i64], .ag [.b, .is .u32, .i .i64], .lf (.i .i64)]) za7.f := fo 71 Tryz.func17 (.o zE.ok (.o zbn.ok (.o zT.ok (.o zbm.ok (.o za8.ok (.o zbE.ok (.o zal.ok .z))))))) [[tt, tt, tt]] fun k => [⟨[(0, .lf (.i .u8)), (4, .bx [.i .u64, .i .u64]), (5, .bx [.i .u64, .i .u64]), (6, .bx [.b, .is .u32, .i .i64]), (7, .bx [.b, .is .u32, .i .i64]), (8, .bx [.b, .is .u32, .i .i64]), (9, .lf (.i .i64))], za7.j1 k⟩]
theorem zeI.ok : Fo 139 (sg [.lf (.i .u8), .lf (.i .u64)] [.lf (.i .u64)]) fun _ => zeI.f := fo 12 Tryz.func139 (.o zG.ok (.o zaQ.ok .z))
theorem zeK.ok : Fo 140 (sg [.lf (.i .u8), .lf (.i .u64)] [.lf (.i .u64)]) fun _ => zeK.f := fo 19 Tryz.func140 (.o zG.ok (.o zau.ok (.o zab.ok (.o zaQ.ok .z))))
theorem zeJ.ok : Fo 112 (sg [.lf (.i .u8), .ag [.i .u64, .i .u64]] [.ag [.i .u64, .i .u64]]) fun _ => zeJ.f := fo 14 Tryz.func112 (.o zeI.ok (.o zeK.ok .z))
theorem zah.ok : Fo 70 (sg [.lf (.i .u8), .lf (.i .u8), .ag [.i .u64, .i .u64], .ag [.i .u64, .i .u64]] [.ag [.i .u64, .i .u64, .i .u8, .i .u8], .lf (.b)]) zah.f := fo 85 Tryz.func70 (.o zbk.ok (.o za4.ok (.o zau.ok (.o zcx.ok (.o zbC.ok (.o zdF.ok (.o zcw.ok (.o zbf.ok (.o zdE.ok (.o zeJ.ok .z)))))))))) [[tt, tt, tt, ff, tt], [tt, tt, tt, tt, ff, tt], [tt, tt, tt, tt, tt, tt, tt]] fun k => [⟨[(0, .lf (.i .u8)), (1, .lf (.i .u8)), (6, .bx [.i .u64, .i .u64]), (7, .bx [.i .u64, .i .u64]), (8, .bx [.i .u64, .i .u64, .i .u8, .i .u8]), (10, .lf (.i .u8)), (11, .lf (.i .u8)), (34, .lf (.b))], zah.j2 k⟩, ⟨[(0, .lf (.i .u8)), (1, .lf (.i .u8)), (6, .bx [.i .u64, .i .u64]), (7, .bx [.i .u64, .i .u64]), (8, .bx [.i .u64, .i .u64, .i .u8, .i .u8]), (10, .lf (.i .u8)), (11, .lf (.i .u8)), (43, .lf (.b))], zah.j4 k⟩, ⟨[(0, .lf (.i .u8)), (1, .lf (.i .u8)), (6, .bx [.i .u64, .i .u64]), (8, .bx [.i .u64, .i .u64, .i .u8, .i .u8]), (10, .lf (.i .u8)), (11, .lf (.i .u8)), (12, .bx [.i .u64, .i .u64])], zah.j6 k⟩]
theorem zd5.ok : Fo 64 (sg [.lf (.i .u8), .ag [.i .u64, .i .u64], .ag [.i .u64, .i .u64]] [.ag [.b, .is .u32, .i .i64, .b, .b, .is .u32, .i .i64, .b], .ag [.b, .is .u32, .i .i64, .b, .b, .is .u32, .i .i64, .b], .ag [.b, .is .u32, .i .i64]]) zd5.f := fo 52 Tryz.func64 (.o zbe.ok (.o zL.ok (.o zao.ok (.o z8.ok .z))))
theorem zda.ok : Fo 26 (sg [.lf (.i .u8), .lf (.i .u8), .ag [.i .u64, .i .u64], .ag [.i .u64, .i .u64]] [.ag [.i .u64, .i .u64, .i .u8, .i .u8]]) zda.f := fo 84 Tryz.func26 (.o zd5.ok (.o zR.ok (.o zbN.ok (.o zah.ok .z))))
theorem zer.ok : Fo 43 (sg [.lf (.i .u8), .lf (.i .u64)] [.ag [.b, .is .u32, .i .i64], .lf (.i .i64)]) zer.f := fo 31 Tryz.func43 (.o zai.ok (.o zaU.ok (.o zcT.ok (.o zcW.ok (.o zcV.ok .z)))))
theorem zdJ.ok : Fo 14 (sg [.lf (.i .u8), .ag [.b, .is .u32, .i .i64], .ag [.b, .is .u32, .i .i64], .ag [.b, .is .u32, .i .i64]] [.lf (.b), .lf (.i .i64)]) zdJ.f := fo 57 Tryz.func14 (.o zu.ok (.o zer.ok (.o zb3.ok (.o zdh.ok (.o zE.ok (.o zce.ok (.o zbn.ok .z)))))))
theorem zaN.ok : Fo 6 (sg [.lf (.i .u8), .ag [.i .u64, .i .u64], .ag [.i .u64, .i .u64], .lf (.b)] [.lf (.b)]) zaN.f := fo 115 Tryz.func6 (.o zby.ok (.o zcz.ok (.o zdJ.ok (.o zdg.ok (.o za7.ok (.o zaR.ok (.o zbk.ok (.o za4.ok (.o zaa.ok (.o zdb.ok (.o zda.ok .z))))))))))) [[tt, tt, tt, tt, tt, tt]] fun k => [⟨[(0, .lf (.i .u8)), (9, .bx [.b, .is .u32, .i .i64]), (10, .bx [.b, .is .u32, .i .i64]), (11, .lf (.i .i64)), (12, .bx [.b, .is .u32, .i .i64]), (13, .bx [.i .u64, .i .u64, .i .u8, .i .u8])], zaN.j2 k⟩]
end Go.Proofs.YtioialhbjmnndaaGreatDoor.Eng
