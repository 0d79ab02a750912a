import Derived.Test.YtnkpmjhlkmlmbaaGreatDoorQDeciTakenF1
import Derived.Tactics
import Derived.BigQuiet
import Derived.WalkKit
import Derived.OwnWalk
import Derived.Lib.TrailingZeros
import Derived.Shelf.Lay
import Derived.Ground.NamesProg
import Derived.Shelf.Strings.Repeat
import Derived.Shelf.Small.Strs
import Derived.Shelf.Spec.TrailingZeros
import Derived.Shelf.Lays7
import Derived.Shelf.Strings.Search1
import Derived.Shelf.Strconv.Atoi
import Derived.Lib.AtoiErrMem
import Derived.Shelf.Strings.Builder1
import Derived.BigCall
import Derived.BigRegion
import Derived.RegionCalls
set_option linter.unusedVariables false
set_option linter.unusedSimpArgs false
namespace Go.Proofs.YtnkpmjhlkmlmbaaGreatDoor.Eng
open Go.RowKit Go.Proofs Go
set_option maxRecDepth 100000
def zhK (w : World) : Prop := ∀ j, j < 32 → w.cell? ⟨5, j, none⟩ = some (.int .u8 (Lib.deBruijn32tab.getD j 0))
theorem zpJ (x k idx : Nat) (w : World) (hx0 : ((x : Int) == 0) = false)
  (key : bits BinOp.and IntKind.u32 (x : Int) (-(x : Int) % 4294967296) * 125613361 % 4294967296 / 134217728 = (idx : Int))
  (hi : idx < 32) (hk : k < 32) (hcell : w.cell? ⟨5, idx, none⟩ = some (.int .u8 k)) :
  Calls Tryz.prog 218 #[.int .u32 x] w fun e w' => e = .returned (.int .i64 k) ∧ w' = w := by
 go_enter Tryz.func218, Tryz.ntmps218
 go_wp2_with (simp only [key])
 go_ret
 exact ⟨rfl, rfl⟩
theorem zpM (w : World) : Calls Tryz.prog 218 #[.int .u32 0] w fun e w' => e = .returned (.int .i64 32) ∧ w' = w := by
 go_enter Tryz.func218, Tryz.ntmps218
 go_wp2
 go_ret
 exact ⟨rfl, rfl⟩
theorem zlU (a b : Nat) (ha : a < 4294967296) (hb : b < 4294967296) : bits .and .u32 (a : Int) (b : Int) = ((a &&& b : Nat) : Int) := by
 have hx : a &&& b < 2 ^ 32 := Nat.and_lt_two_pow _ (by omega)
 have h1 : (BitVec.ofInt 32 (a : Int)).toNat = a := by
  rw [BitVec.ofInt_natCast, BitVec.toNat_ofNat]; exact Nat.mod_eq_of_lt (by omega)
 have h2 : (BitVec.ofInt 32 (b : Int)).toNat = b := by
  rw [BitVec.ofInt_natCast, BitVec.toNat_ofNat]; exact Nat.mod_eq_of_lt (by omega)
 show IntKind.u32.wrap ((BitVec.ofInt 32 (a : Int) &&& BitVec.ofInt 32 (b : Int)).toNat : Int) = _
 have h3 : ∀ n : Int, IntKind.u32.wrap n = n % 4294967296 := fun n => by simp [IntKind.wrap, IntKind.signed, IntKind.bits]
 rw [BitVec.toNat_and, h1, h2, h3]
 omega
theorem zpL (x a : Nat) (hx : x < 4294967296) (hx0 : x ≠ 0) (hlow : x &&& (4294967296 - x) = a) :
  bits BinOp.and IntKind.u32 (x : Int) (-(x : Int) % 4294967296) * 125613361 % 4294967296 / 134217728 = ((a * 125613361 % 4294967296 / 134217728 : Nat) : Int) := by
 have e1 : -(x : Int) % 4294967296 = ((4294967296 - x : Nat) : Int) := by omega
 rw [e1, zlU x _ hx (by omega), hlow]
 omega
theorem zpI (a0 r : Int) (w : World) (hT : zhK w) (h : za1.f a0 = some r) :
  Calls Tryz.prog 218 #[.int .u32 a0] w fun e w' => e = .returned (.int .i64 r) ∧ w' = w := by
 unfold za1.f at h
 split at h
 case isFalse => cases h
 rename_i hx
 obtain ⟨x, rfl⟩ := Int.eq_ofNat_of_zero_le hx.1
 obtain rfl := Option.some.inj h
 rw [Int.toNat_natCast]
 by_cases hx0 : x = 0
 ·subst hx0
  exact zpM w
 ·obtain ⟨hlow, hk⟩ := Lib.lowest_bit 32 x hx0 (by omega)
  obtain ⟨hi, htab⟩ := Lib.deBruijn32_at _ hk
  have hcell := hT _ hi
  rw [htab] at hcell
  exact zpJ x _ _ w (by simp; omega) (zpL x _ (by omega) hx0 hlow) hi hk hcell
theorem za1.ok : ∀ k, qJ Tryz.prog zaz 218 (za1.F k) := by
 intro k
 refine ⟨⟨Tryz.f218, qdB Tryz.f218, Tryz.func218, by kernel_rfl, by kernel_rfl⟩, rfl, rfl, fun M φ w args ls r hgl hc hr => ?_⟩
 have hlf := qao hr
 obtain ⟨x, rfl⟩ : ∃ x, ls = [.int .u32 x] := by
  clear hc hr
  obtain ⟨y, rfl⟩ := List.length_eq_one_iff.1 (qaA hlf).1
  simp only [za1.F, qo, qB, qd, qA, Bool.and_true, List.append_nil] at hlf
  cases y <;> first | (cases hlf; done) | exact ⟨_, by rw [← qF hlf]⟩
 have hr : za1.f x = some r := hr
 have ha : args = #[.int .u32 x] := by
  have hs := hc.size
  have hs : args.size = 1 := hs
  have h1 := (hc.args 0 args[0] (by simp [hs])).1
  apply Array.ext
  ·simp [hs]
  ·intro i h1' h2'
   have : i = 0 := by simp at h2'; omega
   subst this
   exact h1
 have hT : zhK w := fun j hj => hc.rel.holds 5 j _ (hgl 5 j _ (by unfold zaz; rw [if_pos ⟨rfl, hj⟩]))
 subst ha
 refine (zpI x r w hT hr).mono fun e w' h => ⟨_, h.1, rfl, M, φ, ⟨rfl, qbO _⟩, ?_, ?_, qp.refl φ⟩
 ·rw [h.2]; exact hc.rel
 ·rw [h.2]; exact Stp.refl M φ _ w
end Go.Proofs.YtnkpmjhlkmlmbaaGreatDoor.Eng
namespace Go.Proofs
open Go.Shelf
shelf_lay Lays.n105 Nm 105 at Tryz as Tryz.layRepeat
theorem Tryz.extraRepeat : Builder.Extra Tryz.prog Tryz.layRepeat_ren where
 sizeBuilder := by kernel_rfl
 liesBuilder := by kernel_rfl
 t5 := Tryz.layRepeat.t5
 a5 := Tryz.layRepeat.a5
 z5 := Tryz.layRepeat.z5
 v5 := Tryz.layRepeat.v5
 infoByte := by kernel_rfl
 cellsByte := by kernel_rfl
 sizeByte := by kernel_rfl
 neB5 := by decide
shelf_lay Lays.n106 Nm 106 at Tryz as Tryz.layCompare
shelf_lay Lays7.n27 Nm7 27 at Tryz as Tryz.layTz
shelf_lay Lays.n217 Nm 217 at Tryz as Tryz.layIndexByte
shelf_lay Lays.n172 Nm 172 at Tryz as Tryz.layAtoi
end Go.Proofs
namespace Go.Proofs.YtnkpmjhlkmlmbaaGreatDoor.Eng
open Go.RowKit Go.Proofs
set_option maxRecDepth 100000
theorem zn3 (s : ByteArray) : qd6 [.str s] := fun k n hm => by cases List.mem_singleton.1 hm
theorem zgU (n : Int) : qd6 [.int .i64 n] := fun k m hm => by cases List.mem_singleton.1 hm; exact qbO _
theorem znn {ls : List V} (h : qd [.s, .i .i64] ls = true) : ∃ s c, ls = [.str s, .int .i64 c] := by
 match ls, h with
 | [a, b], h =>
  simp only [qd, Bool.and_true, Bool.and_eq_true] at h
  obtain ⟨h1, h2⟩ := h
  cases a <;> first | (cases h1; done) | skip
  cases b <;> first | (cases h2; done) | skip
  rw [← qF h2]
  exact ⟨_, _, rfl⟩
 | [_], h => simp [qd] at h
 | [], h => cases h
 | _ :: _ :: _ :: _, h => simp [qd] at h
theorem znp {ls : List V} (h : qd [.s, .i .u8] ls = true) : ∃ s c, ls = [.str s, .int .u8 c] := by
 match ls, h with
 | [a, b], h =>
  simp only [qd, Bool.and_true, Bool.and_eq_true] at h
  obtain ⟨h1, h2⟩ := h
  cases a <;> first | (cases h1; done) | skip
  cases b <;> first | (cases h2; done) | skip
  rw [← qF h2]
  exact ⟨_, _, rfl⟩
 | [_], h => simp [qd] at h
 | [], h => cases h
 | _ :: _ :: _ :: _, h => simp [qd] at h
theorem znq {k : IntKind} {ls : List V} (h : qd [.i k] ls = true) : ∃ c, ls = [.int k c] := by
 match ls, h with
 | [a], h =>
  simp only [qd, Bool.and_true] at h
  cases a <;> first | (cases h; done) | skip
  rw [← qF h]
  exact ⟨_, rfl⟩
 | [], h => cases h
 | _ :: _ :: _, h => simp [qd] at h
theorem zno {ls : List V} (h : qd [.s, .s] ls = true) : ∃ s c, ls = [.str s, .str c] := by
 match ls, h with
 | [a, b], h =>
  simp only [qd, Bool.and_true, Bool.and_eq_true] at h
  obtain ⟨h1, h2⟩ := h
  cases a <;> first | (cases h1; done) | skip
  cases b <;> first | (cases h2; done) | skip
  exact ⟨_, _, rfl⟩
 | [_], h => simp [qd] at h
 | [], h => cases h
 | _ :: _ :: _ :: _, h => simp [qd] at h
theorem znm {ls : List V} (h : qd [.s] ls = true) : ∃ s, ls = [.str s] := by
 match ls, h with
 | [a], h =>
  simp only [qd, Bool.and_true] at h
  cases a <;> first | (cases h; done) | skip
  exact ⟨_, rfl⟩
 | [], h => cases h
 | _ :: _ :: _, h => simp [qd] at h
theorem zan.ok : ∀ k, qJ Tryz.prog zaz 124 (zan.F k) := fun k => qJ.lib ⟨Tryz.f124, qdB Tryz.f124, Tryz.func124, by kernel_rfl, by kernel_rfl⟩ rfl rfl rfl (fun r => rfl) fun w ls r hw hlf hok hr => by
 obtain ⟨s, c, rfl⟩ := znn hlf
 have hr : zan.f s c = some r := hr
 unfold zan.f at hr
 split at hr
 case isFalse => cases hr
 rename_i h
 obtain rfl := Option.some.inj hr
 refine ⟨zn3 _, ?_⟩
 have := Any.strings_Repeat Tryz.layRepeat Tryz.extraRepeat s c.toNat w (by omega) h.2.1
 rw [Int.toNat_of_nonneg h.1] at this
 exact this.mono fun e w' ⟨he, hb⟩ => ⟨he, qhV hb⟩
theorem zb5.ok : ∀ k, qJ Tryz.prog zaz 120 (zb5.F k) := fun k => qJ.lib ⟨Tryz.f120, qdB Tryz.f120, Tryz.func120, by kernel_rfl, by kernel_rfl⟩ rfl rfl rfl (fun r => rfl) fun w ls r hw hlf hok hr => by
 obtain ⟨s, c, rfl⟩ := zno hlf
 have hr : zb5.f s c = some r := hr
 obtain rfl := Option.some.inj hr
 refine ⟨zgU _, ?_⟩
 exact (Any.strings_Compare Tryz.layCompare s c w).mono fun e w' ⟨he, hb⟩ => ⟨he, hb ▸ qr.refl w⟩
theorem zbQ.ok : ∀ k, qJ Tryz.prog zaz 272 (zbQ.F k) := fun k => qJ.lib ⟨Tryz.f272, qdB Tryz.f272, Tryz.func272, by kernel_rfl, by kernel_rfl⟩ rfl rfl rfl (fun r => rfl) fun w ls r hw hlf hok hr => by
 obtain ⟨c, rfl⟩ := znq hlf
 have hr : zbQ.f c = some r := hr
 unfold zbQ.f at hr
 split at hr
 case isFalse => cases hr
 rename_i h
 obtain rfl := Option.some.inj hr
 obtain ⟨x, rfl⟩ := Int.eq_ofNat_of_zero_le h.1
 refine ⟨zgU _, ?_⟩
 refine (Any7.bits_TrailingZeros Tryz.layTz x (by omega) w fun _ => ?_).mono fun e w' ⟨he, hb⟩ => ⟨he, hb ▸ qr.refl w⟩
 intro j hj
 have hl : Lib.deBruijn64tab.length = 64 := rfl
 rw [Int.toNat_natCast] at *
 exact hw 8 j _ (by unfold zaz; repeat (first | rw [if_pos ⟨rfl, by omega⟩] | rw [if_neg (by omega)]))
theorem zbG.ok : ∀ k, qJ Tryz.prog zaz 158 (zbG.F k) := fun k => qJ.lib ⟨Tryz.f158, qdB Tryz.f158, Tryz.func158, by kernel_rfl, by kernel_rfl⟩ rfl rfl rfl (fun r => rfl) fun w ls r hw hlf hok hr => by
 obtain ⟨s, c, rfl⟩ := znp hlf
 have hr : zbG.f s c = some r := hr
 obtain rfl := Option.some.inj hr
 refine ⟨zgU _, ?_⟩
 exact (Any.stringslite_IndexByte Tryz.layIndexByte s c w).mono fun e w' ⟨he, hb⟩ => ⟨he, hb ▸ qr.refl w⟩
theorem zbk.ok : ∀ k, qJ Tryz.prog zaz 101 (zbk.F k) := fun k => qJ.lib ⟨Tryz.f101, qdB Tryz.f101, Tryz.func101, by kernel_rfl, by kernel_rfl⟩ rfl rfl rfl (fun r => rfl) fun w ls r hw hlf hok hr => by
 obtain ⟨s, rfl⟩ := znm hlf
 have hr : zbk.f s = some r := hr
 unfold zbk.f at hr
 split at hr
 case isFalse => cases hr
 rename_i h
 have hi : qd6 ((zbk.F 0).S.un r) := by
  intro k n hm
  rcases List.mem_cons.1 hm with hm | hm
  ·cases hm; exact qbO _
  ·cases List.mem_singleton.1 hm
 refine ⟨hi, ?_⟩
 exact (Any.strconv_Atoi Tryz.layAtoi s r h hr w).mono fun e w' ⟨he, hb⟩ => ⟨he, by obtain ⟨t, rfl⟩ := hb; exact qhV (Lib.bytesWorld_below w _ t)⟩
theorem zlz : TOk Tryz.prog TT := qh1 (by kernel_rfl)
theorem zmS : Tryz.prog.follows .mixedOrders = true := by kernel_rfl
abbrev Fo (n : Nat) (S : Sig) (f : Nat → Fn (qo S.ps) (Option S.R)) : Prop := ∀ k, qJ Tryz.prog zaz n ⟨S, f k⟩
theorem fo {n : Nat} {ps rs : List Kx} {f : Nat → Fn (qo ps) (Option (sg ps rs).R)} {G : Nat → List (Nat × List Fun)} {fn : Func}
  (nt : Nat) (hf : Tryz.prog.funcs[n]? = some fn) (gs : GP Tryz.prog zaz G) (ds : List (List Bool) := []) (H : Nat → List (qaz (sg ps rs).R) := fun _ => []) (frz : List Nat := [])
  (hname : (fn.name == "runtime.NumGoroutine") = false := by kernel_rfl) (hbody : fn.body = some (qdB fn) := by kernel_rfl) (hnt : nt = fn.ntmps := by kernel_rfl) (hr : rs.all qag = true := by kernel_rfl)
  (hck : qb7 (qaO (sg ps rs)) (zc ds (H 0)) = true := by kernel_rfl)
  (h0 : qbV (H 0) := by ((repeat (refine ⟨by ((repeat (intro _)); show _ = _; kernel_rfl), ?_⟩)); trivial))
  (hs : ∀ k, qb2 (mkC TT zaz G nt (zc ds (H 0)) frz k) (sg ps rs) (qdB fn) fn.results.toList (qaL (H k)) (zc ds (H 0)) (H (k + 1)) := by (intro k; (repeat (refine ⟨rfl, by ((repeat (intro _)); show _ = _; kernel_rfl), ?_⟩)); trivial))
  (he : ∀ k, qV (qo ps) (fun ls y => qei (mkC TT zaz G nt (zc ds (H 0)) frz k) (sg ps rs) (qdB fn) fn.results.toList (qaL (H k)) ls = y) (f k) := by ((repeat (intro _)); show _ = _; kernel_rfl)) : Fo n (sg ps rs) f :=
 qJ.mk' zlz zmS nt hf gs ds H frz hname hbody hnt hr hck h0 hs he
theorem zcC.ok : Fo 50 (sg [.lf (.i .u8)] [.lf (.b)]) fun _ => zcC.f := fo 9 Tryz.func50 .z
theorem zdS.ok : Fo 51 (sg [.lf (.i .u8)] [.lf (.b)]) fun _ => zdS.f := fo 9 Tryz.func51 .z
theorem zdP.ok : Fo 52 (sg [.lf (.i .u8), .lf (.i .u64)] [.lf (.i .i64)]) fun _ => zdP.f := fo 14 Tryz.func52 (.o zcC.ok .z)
theorem za3.ok : Fo 15 (sg [.lf (.i .u8), .lf (.i .u8), .lf (.is .u64)] [.lf (.i .i64)]) za3.f := fo 27 Tryz.func15 (.o zcC.ok (.o zdS.ok (.o zdP.ok .z))) [[tt, tt, tt, ff, tt, ff]] fun k => [⟨[(0, .lf (.i .u8)), (2, .lf (.is .u64)), (7, .lf (.i .i64))], za3.l0 k⟩]
theorem zcE.ok : Fo 114 (sg [.lf (.i .u8)] [.lf (.i .u64)]) fun _ => zcE.f := fo 5 Tryz.func114 .z
theorem zbU.ok : Fo 113 (sg [.lf (.i .u8)] [.lf (.i .i64)]) fun _ => zbU.f := fo 5 Tryz.func113 .z
theorem zcF.ok : Fo 75 (sg [.lf (.i .u8), .lf (.i .u64)] [.ag [.b, .i .i64, .i .u64]]) fun _ => zcF.f := fo 28 Tryz.func75 (.o zbU.ok (.o zcE.ok .z))
theorem zcD.ok : Fo 76 (sg [.lf (.i .u8)] [.lf (.i .i64)]) fun _ => zcD.f := fo 5 Tryz.func76 .z
theorem zcB.ok : Fo 21 (sg [.lf (.i .u8), .lf (.i .u64)] [.lf (.i .u8)]) fun _ => zcB.f := fo 28 Tryz.func21 (.o zcF.ok (.o zcD.ok .z))
theorem zdO.ok : Fo 20 (sg [.lf (.i .u8), .lf (.i .u64)] [.lf (.b)]) fun _ => zdO.f := fo 15 Tryz.func20 (.o zcB.ok .z)
theorem ze3.ok : Fo 209 (sg [.lf (.i .u8)] [.ag [.i .i64, .i .i64, .i .u64], .lf (.b)]) fun _ => ze3.f := fo 12 Tryz.func209 .z
theorem zG.ok : Fo 157 (sg [.lf (.i .u8), .lf (.is .u64)] [.ag [.i .i64, .i .i64, .i .u64], .lf (.i .i64)]) zG.f := fo 35 Tryz.func157 (.o ze3.ok .z) [[tt, tt, tt, ff, tt, ff]] fun k => [⟨[(4, .bx [.i .i64, .i .i64, .i .u64]), (6, .bx [.i .i64, .i .i64, .i .u64]), (18, .lf (.is .u64)), (19, .lf (.i .i64)), (20, .lf (.i .i64))], zG.l0 k⟩]
theorem zbp.ok : Fo 99 (sg [.ag [.i .i64, .i .i64, .i .u64]] [.lf (.i .u64)]) fun _ => zbp.f := fo 9 Tryz.func99 .z
theorem zc2.ok : Fo 181 (sg [.ag [.i .i64, .i .i64, .i .u64], .lf (.i .u64)] [.lf (.i .u8)]) fun _ => zc2.f := fo 29 Tryz.func181 (.o zbp.ok .z)
theorem zd5.ok : Fo 117 (sg [.lf (.i .u8), .lf (.i .u64)] [.lf (.i .u8), .lf (.i .i64)]) zd5.f := fo 21 Tryz.func117 (.o zG.ok (.o zc2.ok .z))
theorem zc3.ok : Fo 182 (sg [.ag [.i .i64, .i .i64, .i .u64], .lf (.i .u64)] [.ag [.b, .i .i64, .i .u64]]) fun _ => zc3.f := fo 27 Tryz.func182 .z
theorem zd9.ok : Fo 118 (sg [.lf (.i .u8), .lf (.i .u64)] [.ag [.b, .i .i64, .i .u64], .lf (.i .i64)]) zd9.f := fo 22 Tryz.func118 (.o zG.ok (.o zc3.ok .z))
theorem zaE.ok : Fo 57 (sg [.lf (.i .u8), .lf (.i .u64)] [.lf (.s), .lf (.b), .lf (.i .i64)]) zaE.f := fo 39 Tryz.func57 (.o zd5.ok (.o zd9.ok .z)) [[tt, tt, tt, tt, tt, tt]] fun k => [⟨[(9, .bx [.b, .i .i64, .i .u64]), (11, .lf (.s))], zaE.j1 k⟩]
theorem zea.ok : Fo 198 (sg [.lf (.i .u8), .lf (.i .u64)] [.ag [.i .i64, .i .i64, .i .u64], .lf (.i .i64)]) zea.f := fo 25 Tryz.func198 (.o zG.ok (.o zc2.ok .z))
theorem zp.ok : Fo 219 (sg [.ow .u32] [.ow .u32]) zp.f := fo 21 Tryz.func219 .z [[tt, ff, ff]] fun k => [⟨[(0, .ow .u32)], zp.l0 k⟩]
theorem zp.ok1 : Fo 219 (sg [.lf (.is .u32)] [.lf (.is .u32)]) zp.f := fo 21 Tryz.func219 .z [[tt, ff, ff]] fun k => [⟨[(0, .lf (.is .u32))], zp.l0 k⟩]
theorem zbh.ok : Fo 166 (sg [.lf (.i .u64)] [.lf (.is .u32)]) zbh.f := fo 10 Tryz.func166 (.t zp.ok zp.ok1 .z)
theorem zbB.ok : Fo 199 (sg [.ag [.i .i64, .i .i64, .i .u64]] [.lf (.i .i64)]) fun _ => zbB.f := fo 10 Tryz.func199 .z
theorem zac.ok : Fo 164 (sg [.lf (.is .u32)] [.lf (.b)]) fun _ => zac.f := fo 20 Tryz.func164 .z
theorem zaX.ok : Fo 165 (sg [.lf (.is .u32)] [.lf (.i .i64)]) zaX.f := fo 23 Tryz.func165 (.o zac.ok (.o za1.ok .z)) [[tt, tt, ff, tt, ff]] fun k => [⟨[(8, .lf (.is .u32)), (9, .lf (.i .i64)), (10, .lf (.i .i64))], zaX.l0 k⟩]
theorem zaM.ok : Fo 200 (sg [.lf (.is .u32), .lf (.i .i64)] [.lf (.is .u32)]) zaM.f := fo 60 Tryz.func200 (.t zp.ok zp.ok1 .z) [[tt, tt, tt, tt, tt, ff, tt, ff]] fun k => [⟨[(0, .lf (.is .u32)), (5, .lf (.i .i64)), (6, .ow .u32), (23, .lf (.is .u32)), (24, .lf (.i .i64)), (25, .lf (.i .i64))], zaM.l0 k⟩]
theorem zaa.ok : Fo 220 (sg [.lf (.i .u32)] [.lf (.i .i64)]) zaa.f := fo 19 Tryz.func220 .z [[tt, tt], [tt, tt, tt]] fun k => [⟨[(0, .lf (.i .u32)), (2, .lf (.i .i64))], zaa.j0 k⟩, ⟨[(0, .lf (.i .u32)), (2, .lf (.i .i64))], zaa.j1 k⟩]
theorem zau.ok : Fo 201 (sg [.lf (.is .u32)] [.lf (.i .i64)]) zau.f := fo 23 Tryz.func201 (.o zac.ok (.o zaa.ok .z))
theorem zaN.ok : Fo 202 (sg [.lf (.is .u32), .lf (.i .i64)] [.ow .u32]) zaN.f := fo 50 Tryz.func202 (.t zp.ok zp.ok1 .z) [[tt, tt, tt, tt, ff, tt, ff]] fun k => [⟨[(5, .ow .u32), (6, .lf (.i .i64)), (7, .lf (.i .u32)), (24, .lf (.is .u32)), (25, .lf (.i .i64)), (26, .lf (.i .i64))], zaN.l0 k⟩]
theorem zav.ok : Fo 146 (sg [.lf (.is .u32), .lf (.i .i64)] [.lf (.is .u32), .lf (.b), .lf (.i .i64)]) zav.f := fo 39 Tryz.func146 (.o zac.ok (.o zaX.ok (.o zaM.ok (.o zau.ok (.o zaN.ok .z)))))
theorem zaH.ok : Fo 107 (sg [.lf (.b), .lf (.is .u32), .lf (.i .i64)] [.ag [.b, .is .u32, .i .i64], .lf (.i .i64)]) zaH.f := fo 47 Tryz.func107 (.o zav.ok (.o zac.ok (.o zaX.ok .z)))
theorem zbo.ok : Fo 145 (sg [.lf (.i .u8), .lf (.i .u64)] [.ag [.b, .is .u32, .i .i64], .lf (.i .i64)]) zbo.f := fo 47 Tryz.func145 (.o zaH.ok (.o zbh.ok (.o zc3.ok (.o zea.ok (.o zbB.ok .z))))) [[tt, tt, tt, tt, tt]] fun k => [⟨[(4, .bx [.b, .is .u32, .i .i64]), (6, .bx [.i .i64, .i .i64, .i .u64]), (8, .bx [.b, .i .i64, .i .u64])], zbo.j1 k⟩]
theorem zdF.ok : Fo 240 (sg [.lf (.i .u32), .lf (.i .u32), .lf (.i .u32)] [.lf (.i .u32), .lf (.i .u32)]) fun _ => zdF.f := fo 33 Tryz.func240 .z
theorem zaZ.ok : Fo 203 (sg [.lf (.is .u32), .lf (.i .u32)] [.lf (.is .u32), .lf (.i .u32)]) zaZ.f := fo 35 Tryz.func203 (.t zp.ok zp.ok1 (.o zdF.ok .z)) [[tt, tt, tt, ff, tt, ff]] fun k => [⟨[(0, .lf (.is .u32)), (1, .lf (.i .u32)), (6, .ow .u32), (7, .lf (.i .u32)), (8, .lf (.i .i64))], zaZ.l0 k⟩]
theorem zv.ok : Fo 147 (sg [.lf (.is .u32)] [.lf (.s), .lf (.i .i64)]) zv.f := fo 76 Tryz.func147 (.o zac.ok (.o zaZ.ok .z)) [[tt, tt, tt, tt, ff, ff], [tt, tt, tt, tt, ff, ff, ff, tt, ff, tt, tt, tt, ff], [tt, tt, tt, tt, tt, ff, ff], [tt, tt, tt, tt, tt, tt, ff, tt, ff]] fun k => [⟨[(0, .lf (.is .u32)), (4, .ow .u8)], zv.l0 k⟩, ⟨[(0, .lf (.is .u32)), (4, .ow .u8), (6, .lf (.i .u32)), (7, .lf (.i .i64))], zv.l1 k⟩, ⟨[(4, .ow .u8)], zv.l2 k⟩, ⟨[(4, .ow .u8), (8, .lf (.i .i64)), (9, .lf (.i .i64))], zv.l3 k⟩]
theorem zz.ok : Fo 221 (sg [.lf (.i .u64)] [.lf (.i .i64)]) zz.f := fo 25 Tryz.func221 .z [[tt, tt], [tt, tt, tt], [tt, tt, tt, tt]] fun k => [⟨[(0, .lf (.i .u64)), (2, .lf (.i .i64))], zz.j0 k⟩, ⟨[(0, .lf (.i .u64)), (2, .lf (.i .i64))], zz.j1 k⟩, ⟨[(0, .lf (.i .u64)), (2, .lf (.i .i64))], zz.j2 k⟩]
theorem zdH.ok : Fo 167 (sg [.lf (.i .u64)] [.lf (.i .i64)]) zdH.f := fo 8 Tryz.func167 (.o zz.ok .z)
theorem zJ.ok : Fo 168 (sg [.lf (.is .u32), .lf (.is .u32)] [.lf (.is .u32)]) zJ.f := fo 68 Tryz.func168 (.t zp.ok zp.ok1 .z) [[tt, tt, ff, tt, ff], [tt, tt, ff, tt, ff, ff, tt, tt, ff, ff, tt, tt, ff, tt, ff]] fun k => [⟨[(1, .lf (.is .u32)), (5, .ow .u32), (18, .lf (.is .u32)), (19, .lf (.i .i64)), (20, .lf (.i .i64))], zJ.l0 k⟩, ⟨[(1, .lf (.is .u32)), (5, .ow .u32), (6, .lf (.i .i64)), (7, .lf (.i .u32)), (8, .lf (.i .u64)), (18, .lf (.is .u32)), (19, .lf (.i .i64)), (20, .lf (.i .i64)), (25, .lf (.is .u32)), (26, .lf (.i .i64)), (27, .lf (.i .i64))], zJ.l1 k⟩]
theorem zB.ok : Fo 108 (sg [.lf (.i .u32), .lf (.i .i64)] [.lf (.is .u32), .lf (.i .i64)]) zB.f := fo 55 Tryz.func108 (.o zbh.ok (.o zdH.ok (.o zJ.ok .z))) [[tt, tt, tt, ff, tt, ff], [tt, ff, ff, tt, tt, tt], [tt, tt, tt, ff, tt, ff, ff, tt, ff, ff, tt, tt, tt]] fun k => [⟨[(0, .lf (.i .u32)), (1, .lf (.i .i64)), (6, .lf (.is .u32)), (7, .lf (.i .i64))], zB.l0 k⟩, ⟨[(0, .lf (.i .u32)), (1, .lf (.i .i64)), (11, .lf (.b))], zB.j0 k⟩, ⟨[(0, .lf (.i .u32)), (1, .lf (.i .i64)), (6, .lf (.is .u32)), (7, .lf (.i .i64))], zB.j4 k⟩]
theorem z3.ok : Fo 204 (sg [.lf (.rw [.is .u32])] [.lf (.b)]) z3.f := fo 15 Tryz.func204 (.o zac.ok .z) [[tt, ff, tt, ff]] fun k => [⟨[(5, .lf (.rw [.is .u32])), (6, .lf (.i .i64)), (7, .lf (.i .i64))], z3.l0 k⟩]
theorem zaY.ok : Fo 205 (sg [.ow .u32] [.ow .u32, .lf (.i .i64)]) fun _ => zaY.f := fo 8 Tryz.func205 .z
theorem zaY.ok1 : Fo 205 (sg [.lf (.is .u32)] [.lf (.is .u32), .lf (.i .i64)]) fun _ => zaY.f := fo 8 Tryz.func205 .z
theorem zcU.ok : Fo 148 (sg [.lf (.is .u32), .lf (.is .u32)] [.lf (.is .u32), .lf (.i .i64)]) zcU.f := fo 34 Tryz.func148 (.o zJ.ok (.o z3.ok (.t zaY.ok zaY.ok1 .z)))
theorem za7.ok : Fo 85 (sg [.lf (.i .u8), .lf (.i .u64)] [.lf (.b), .lf (.s), .lf (.s)]) za7.f := fo 93 Tryz.func85 (.o zB.ok (.o zan.ok (.o zbo.ok (.o zav.ok (.o zv.ok (.o zcU.ok .z)))))) [[tt, tt, tt, tt, tt, tt, tt]] fun k => [⟨[(7, .bx [.b, .is .u32, .i .i64]), (18, .lf (.s))], za7.j1 k⟩]
theorem zbz.ok : Fo 183 (sg [.lf (.s), .lf (.i .u8)] [.lf (.s)]) zbz.f := fo 23 Tryz.func183 .z [[tt, ff, ff]] fun k => [⟨[(0, .lf (.s)), (1, .lf (.i .u8))], zbz.l0 k⟩]
theorem zbl.ok : Fo 119 (sg [.lf (.s), .lf (.s)] [.lf (.s)]) zbl.f := fo 37 Tryz.func119 (.o zbz.ok .z) [[tt, tt, ff, tt]] fun k => [⟨[(0, .lf (.s)), (1, .lf (.s)), (21, .lf (.b))], zbl.j2 k⟩]
theorem zaS.ok : Fo 58 (sg [.lf (.i .u8), .lf (.i .u64)] [.ag [.b, .s, .i .i64]]) zaS.f := fo 35 Tryz.func58 (.o za7.ok (.o zbl.ok .z)) [[tt, tt, tt, tt, ff, ff]] fun k => [⟨[(4, .bx [.b, .s, .i .i64]), (5, .lf (.b)), (8, .lf (.i .i64)), (9, .lf (.s))], zaS.l0 k⟩]
theorem zcG.ok : Fo 61 (sg [.ag [.b, .s, .i .i64], .lf (.i .i64)] [.ag [.b, .s, .i .i64]]) zcG.f := fo 15 Tryz.func61 (.o zbl.ok .z)
theorem zaT.ok : Fo 62 (sg [.ag [.b, .s, .i .i64], .lf (.i .i64)] [.ag [.b, .s, .i .i64]]) zaT.f := fo 45 Tryz.func62 .z [[tt, tt, ff, tt, ff]] fun k => [⟨[(2, .bx [.b, .s, .i .i64]), (4, .bx [.b, .s, .i .i64]), (5, .ow .u8), (6, .lf (.i .i64))], zaT.l0 k⟩]
theorem zo.ok : Fo 48 (sg [.lf (.s)] [.lf (.is .u32), .lf (.i .i64)]) zo.f := fo 107 Tryz.func48 .z [[tt, tt, ff, tt, ff], [tt, tt, tt, tt, ff, tt, ff], [tt, tt, tt, tt, ff, tt, ff, ff, tt, ff, tt, tt, tt, ff, ff], [tt, tt, tt, tt, ff, tt, ff, ff, tt, ff, tt, tt, tt, tt, ff, tt, ff], [tt, tt, tt, tt, ff, tt, ff, ff, tt, ff, tt, tt], [tt, tt, tt, tt, ff, tt, ff, ff, tt, ff, tt, tt, tt, tt, tt, tt]] fun k => [⟨[(0, .lf (.s)), (25, .lf (.i .i64)), (26, .lf (.i .i64))], zo.l0 k⟩, ⟨[(0, .lf (.s)), (5, .ow .u32), (6, .lf (.i .i64))], zo.l1 k⟩, ⟨[(0, .lf (.s)), (5, .ow .u32), (6, .lf (.i .i64)), (7, .lf (.i .i64)), (8, .lf (.i .u64)), (9, .lf (.i .u64))], zo.l2 k⟩, ⟨[(0, .lf (.s)), (5, .ow .u32), (6, .lf (.i .i64)), (8, .lf (.i .u64)), (9, .lf (.i .u64)), (75, .al 5), (76, .lf (.i .i64)), (77, .lf (.i .i64))], zo.l3 k⟩, ⟨[(0, .lf (.s)), (5, .ow .u32), (6, .lf (.i .i64)), (7, .lf (.i .i64))], zo.j7 k⟩, ⟨[(0, .lf (.s)), (5, .ow .u32), (6, .lf (.i .i64))], zo.j10 k⟩]
theorem zev.ok : Fo 208 (sg [.lf (.i .i64)] [.lf (.b)]) fun _ => zev.f := fo 9 Tryz.func208 .z
theorem zbt.ok : Fo 155 (sg [.ag [.b, .is .u32, .i .i64]] [.lf (.b)]) fun _ => zbt.f := fo 30 Tryz.func155 (.o zac.ok (.o zev.ok .z))
theorem zaV.ok : Fo 169 (sg [.lf (.rw [.b, .is .u32, .i .i64])] [.lf (.b)]) zaV.f := fo 15 Tryz.func169 (.o zbt.ok .z) [[tt, ff, tt, ff]] fun k => [⟨[(5, .lf (.rw [.b, .is .u32, .i .i64])), (6, .lf (.i .i64)), (7, .lf (.i .i64))], zaV.l0 k⟩]
theorem zdj.ok : Fo 109 (sg [.ag [.b, .is .u32, .i .i64], .ag [.b, .is .u32, .i .i64]] [.ag [.b, .is .u32, .i .i64], .lf (.i .i64)]) zdj.f := fo 40 Tryz.func109 (.o zaH.ok (.o zcU.ok (.o zaV.ok .z)))
theorem zeO.ok : Fo 154 (sg [.lf (.i .u8)] [.ag [.i .i64, .i .i64, .i .i64], .lf (.b)]) fun _ => zeO.f := fo 12 Tryz.func154 .z
theorem zT.ok : Fo 94 (sg [.lf (.i .u8), .lf (.i .u8), .lf (.rw [.b, .is .u32, .i .i64])] [.ag [.i .i64, .i .i64, .i .i64], .lf (.i .i64)]) zT.f := fo 39 Tryz.func94 (.o zeO.ok (.o zbt.ok .z)) [[tt, tt, tt, tt, ff, tt, ff]] fun k => [⟨[(6, .bx [.i .i64, .i .i64, .i .i64]), (8, .bx [.i .i64, .i .i64, .i .i64]), (27, .lf (.rw [.b, .is .u32, .i .i64])), (28, .lf (.i .i64)), (29, .lf (.i .i64))], zT.l0 k⟩]
theorem za9.ok : Fo 170 (sg [.ag [.b, .is .u32, .i .i64]] [.lf (.i .i64)]) za9.f := fo 16 Tryz.func170 (.o zbt.ok .z) [[tt, ff, ff, tt]] fun k => [⟨[(1, .bx [.b, .is .u32, .i .i64]), (3, .lf (.b))], za9.j0 k⟩]
theorem zam.ok : Fo 222 (sg [.lf (.is .u32)] [.lf (.i .u64), .lf (.b)]) zam.f := fo 31 Tryz.func222 (.o zac.ok .z) [[tt, tt, tt, ff, tt, ff]] fun k => [⟨[(4, .lf (.i .u64)), (15, .lf (.is .u32)), (16, .lf (.i .i64)), (17, .lf (.i .i64))], zam.l0 k⟩]
theorem zcW.ok : Fo 171 (sg [.ag [.b, .is .u32, .i .i64]] [.ag [.i .u64, .i .i64, .b]]) zcW.f := fo 33 Tryz.func171 (.o zav.ok (.o zau.ok (.o zam.ok .z)))
theorem zds.ok : Fo 250 (sg [.lf (.i .u8), .lf (.b), .lf (.b), .lf (.b), .lf (.b)] [.lf (.b)]) fun _ => zds.f := fo 42 Tryz.func250 .z
theorem zd1.ok : Fo 249 (sg [.lf (.b)] [.lf (.i .u64)]) fun _ => zd1.f := fo 4 Tryz.func249 .z
theorem zae.ok : Fo 223 (sg [.ag [.i .u64, .i .i64, .b], .lf (.i .u8), .lf (.b), .lf (.i .i64)] [.lf (.i .u64), .lf (.b)]) zae.f := fo 70 Tryz.func223 (.o zd1.ok (.o zds.ok .z)) [[tt, tt, tt, tt, tt], [tt, tt, tt, tt, tt, tt]] fun k => [⟨[(1, .lf (.i .u8)), (2, .lf (.b)), (4, .bx [.i .u64, .i .i64, .b]), (10, .lf (.i .i64)), (11, .lf (.i .u64)), (12, .lf (.b)), (13, .lf (.b))], zae.j1 k⟩, ⟨[(1, .lf (.i .u8)), (2, .lf (.b)), (11, .lf (.i .u64)), (12, .lf (.b)), (13, .lf (.b))], zae.j2 k⟩]
theorem zd7.ok : Fo 156 (sg [.ag [.i .i64, .i .i64, .i .u64]] [.lf (.i .u64)]) fun _ => zd7.f := fo 6 Tryz.func156 (.o zbp.ok .z)
theorem zeZ.ok : Fo 96 (sg [.lf (.i .u8), .lf (.b), .lf (.fn 156)] [.lf (.i .u64), .lf (.i .i64)]) zeZ.f := fo 28 Tryz.func96 (.o zd7.ok (.o zG.ok .z))
theorem zd6.ok : Fo 95 (sg [.lf (.i .u8), .lf (.b)] [.lf (.i .u64), .lf (.i .i64)]) zd6.f := fo 11 Tryz.func95 (.o zeZ.ok .z)
theorem ze1.ok : Fo 96 (sg [.lf (.i .u8), .lf (.b), .lf (.fn 99)] [.lf (.i .u64), .lf (.i .i64)]) ze1.f := fo 28 Tryz.func96 (.o zbp.ok (.o zG.ok .z))
theorem zc0.ok : Fo 44 (sg [.lf (.i .u8), .lf (.b)] [.lf (.i .u64), .lf (.i .i64)]) zc0.f := fo 11 Tryz.func44 (.o ze1.ok .z)
theorem zad.ok : Fo 41 (sg [.lf (.i .u8), .lf (.i .u8), .lf (.b)] [.lf (.i .u64), .lf (.i .i64)]) zad.f := fo 46 Tryz.func41 (.o zc0.ok (.o zT.ok (.o zd6.ok .z))) [[tt, tt, ff, tt]] fun k => [⟨[(0, .lf (.i .u8)), (2, .lf (.b)), (35, .lf (.b))], zad.j1 k⟩]
theorem zdC.ok : Fo 251 (sg [.ag [.i .i64, .i .i64, .i .u64], .ag [.b, .i .i64, .i .u64]] [.lf (.i .u64)]) fun _ => zdC.f := fo 22 Tryz.func251 .z
theorem zcw.ok : Fo 224 (sg [.lf (.i .u8), .ag [.b, .is .u32, .i .i64]] [.lf (.i .u64), .lf (.i .i64)]) zcw.f := fo 95 Tryz.func224 (.o zbt.ok (.o zG.ok (.o zbB.ok (.o zz.ok (.o zam.ok (.o zdC.ok .z))))))
theorem zfU.ok : Fo 106 (sg [.ag [.i .i64, .i .i64, .i .u64]] [.lf (.i .u64)]) fun _ => zfU.f := fo 3 Tryz.func106 .z
theorem ze0.ok : Fo 96 (sg [.lf (.i .u8), .lf (.b), .lf (.fn 106)] [.lf (.i .u64), .lf (.i .i64)]) ze0.f := fo 28 Tryz.func96 (.o zfU.ok (.o zG.ok .z))
theorem zc1.ok : Fo 47 (sg [.lf (.i .u8), .lf (.b)] [.lf (.i .u64), .lf (.i .i64)]) zc1.f := fo 11 Tryz.func47 (.o ze0.ok .z)
theorem zbb.ok : Fo 172 (sg [.ag [.i .u64, .i .i64, .b], .lf (.i .u8), .ag [.i .i64, .i .i64, .i .i64], .lf (.i .u8), .lf (.b)] [.lf (.i .u64), .lf (.i .u8)]) zbb.f := fo 106 Tryz.func172 (.o zad.ok (.o zc1.ok (.o zaH.ok (.o zbh.ok (.o zz.ok (.o zae.ok (.o zcw.ok .z))))))) [[tt, tt, tt, tt, tt, tt, tt]] fun k => [⟨[(3, .lf (.i .u8)), (4, .lf (.b)), (5, .bx [.i .u64, .i .i64, .b]), (7, .bx [.i .i64, .i .i64, .i .i64]), (14, .lf (.b)), (19, .lf (.i .u64))], zbb.j1 k⟩]
theorem zdr.ok : Fo 110 (sg [.lf (.i .u8), .lf (.i .u8), .ag [.b, .is .u32, .i .i64]] [.lf (.i .u64), .lf (.i .u8), .lf (.i .i64)]) zdr.f := fo 40 Tryz.func110 (.o zT.ok (.o za9.ok (.o zcW.ok (.o zbb.ok .z))))
theorem zeu.ok : Fo 225 (sg [.lf (.i .i64)] [.lf (.i .i64)]) fun _ => zeu.f := fo 9 Tryz.func225 .z
theorem zaw.ok : Fo 255 (sg [.lf (.is .u32), .lf (.is .u32)] [.lf (.i .i64)]) zaw.f := fo 43 Tryz.func255 .z [[tt, tt, ff, tt, ff]] fun k => [⟨[(0, .lf (.is .u32)), (1, .lf (.is .u32)), (5, .lf (.i .i64))], zaw.l0 k⟩]
theorem zdG.ok : Fo 267 (sg [.lf (.i .u32)] [.lf (.i .i64)]) zdG.f := fo 6 Tryz.func267 (.o zaa.ok .z)
theorem zcb.ok : Fo 273 (sg [.lf (.i .u32), .lf (.i .u32), .lf (.i .u32)] [.lf (.i .u32), .lf (.i .u32)]) fun _ => zcb.f := fo 25 Tryz.func273 .z
theorem zcy.ok : Fo 266 (sg [.lf (.i .u32), .lf (.i .u32), .lf (.i .u32)] [.lf (.i .u32), .lf (.i .u32)]) fun _ => zcy.f := fo 22 Tryz.func266 .z
theorem zx.ok : Fo 268 (sg [.bo .u32, .lf (.is .u32)] [.lf (.i .u32)]) zx.f := fo 160 Tryz.func268 (.o zcy.ok (.o zcb.ok .z)) [[tt, tt, tt, tt, ff, ff], [tt, tt, tt, tt, tt, tt, ff, tt, ff], [tt, tt, tt, tt, tt, tt, tt, tt, tt, tt, ff, tt, ff]] fun k => [⟨[(0, .bo .u32), (1, .lf (.is .u32)), (5, .lf (.i .i64)), (7, .lf (.i .u64)), (8, .lf (.i .u64))], zx.l0 k⟩, ⟨[(0, .bo .u32), (1, .lf (.is .u32)), (5, .lf (.i .i64)), (7, .lf (.i .u64)), (9, .lf (.i .u32)), (10, .lf (.i .u64)), (81, .lf (.is .u32)), (82, .lf (.i .i64)), (83, .lf (.i .i64))], zx.l1 k⟩, ⟨[(0, .bo .u32), (5, .lf (.i .i64)), (7, .lf (.i .u64)), (13, .lf (.i .u32)), (129, .lf (.is .u32)), (130, .lf (.i .i64)), (131, .lf (.i .i64))], zx.l2 k⟩]
theorem z6.ok : Fo 256 (sg [.lf (.is .u32), .lf (.is .u32)] [.lf (.is .u32), .lf (.is .u32)]) z6.f := fo 68 Tryz.func256 (.o zaM.ok (.o zaN.ok (.t zp.ok zp.ok1 (.o zdG.ok (.o zx.ok .z))))) [[tt, tt, tt, tt, ff, ff], [tt, tt, tt, tt, tt, tt, tt, ff, tt, ff]] fun k => [⟨[(0, .lf (.is .u32)), (6, .lf (.i .i64)), (7, .ow .u32), (8, .ow .u32)], z6.l0 k⟩, ⟨[(6, .lf (.i .i64)), (7, .ow .u32), (8, .ow .u32), (9, .lf (.i .i64)), (10, .ow .u32), (11, .lf (.i .i64))], z6.l1 k⟩]
theorem zcV.ok : Fo 227 (sg [.lf (.is .u32), .lf (.is .u32)] [.lf (.is .u32), .lf (.is .u32), .lf (.i .i64)]) zcV.f := fo 49 Tryz.func227 (.o zaZ.ok (.o z3.ok (.t zp.ok zp.ok1 (.o zaw.ok (.o z6.ok .z)))))
theorem zbu.ok : Fo 265 (sg [.lf (.is .u32), .lf (.is .u32)] [.lf (.is .u32)]) zbu.f := fo 41 Tryz.func265 (.t zp.ok zp.ok1 (.o zcb.ok .z)) [[tt, tt, tt, ff, tt, ff], [tt, tt, tt, ff, tt, ff, ff, tt, tt, ff, ff, tt, tt, tt]] fun k => [⟨[(0, .lf (.is .u32)), (1, .lf (.is .u32)), (5, .ow .u32), (6, .lf (.i .u32)), (13, .lf (.i .i64)), (14, .lf (.i .i64))], zbu.l0 k⟩, ⟨[(0, .lf (.is .u32)), (1, .lf (.is .u32)), (5, .ow .u32), (6, .lf (.i .u32)), (7, .lf (.i .i64)), (8, .lf (.i .u32)), (13, .lf (.i .i64)), (14, .lf (.i .i64))], zbu.j1 k⟩]
theorem zeH.ok : Fo 252 (sg [.lf (.is .u32), .lf (.is .u32)] [.lf (.is .u32), .lf (.i .i64)]) zeH.f := fo 18 Tryz.func252 (.o z3.ok (.o zaw.ok (.o zbu.ok .z)))
theorem zfA.ok : Fo 253 (sg [.lf (.is .u32), .lf (.is .u32)] [.lf (.i .i64), .lf (.i .i64)]) zfA.f := fo 14 Tryz.func253 (.o z3.ok (.o zaw.ok .z))
theorem zat.ok : Fo 254 (sg [.lf (.is .u32), .lf (.is .u32)] [.lf (.is .u32), .lf (.i .i64)]) zat.f := fo 63 Tryz.func254 (.o z3.ok (.t zaY.ok zaY.ok1 (.t zp.ok zp.ok1 (.o zcy.ok .z)))) [[tt, tt, tt, tt, tt, ff, tt, ff], [tt, tt, tt], [tt, tt, tt, tt, tt, ff, tt, ff, ff, tt, tt, ff, ff, tt, tt, tt]] fun k => [⟨[(0, .lf (.is .u32)), (1, .lf (.is .u32)), (6, .ow .u32), (7, .lf (.i .u32)), (27, .lf (.i .i64)), (28, .lf (.i .i64))], zat.l0 k⟩, ⟨[(0, .lf (.is .u32)), (1, .lf (.is .u32))], zat.j1 k⟩, ⟨[(0, .lf (.is .u32)), (1, .lf (.is .u32)), (6, .ow .u32), (7, .lf (.i .u32)), (8, .lf (.i .i64)), (9, .lf (.i .u32)), (27, .lf (.i .i64)), (28, .lf (.i .i64))], zat.j3 k⟩]
theorem zck.ok : Fo 228 (sg [.lf (.b), .lf (.is .u32), .lf (.i .i64), .lf (.b), .lf (.i .i64)] [.ag [.b, .is .u32, .i .i64], .lf (.b), .lf (.i .i64)]) zck.f := fo 49 Tryz.func228 (.o zaH.ok (.o zav.ok (.o zau.ok .z)))
theorem zaI.ok : Fo 226 (sg [.ag [.b, .is .u32, .i .i64], .ag [.b, .is .u32, .i .i64], .lf (.i .i64)] [.ag [.b, .is .u32, .i .i64], .lf (.b), .lf (.i .i64)]) zaI.f := fo 119 Tryz.func226 (.o zav.ok (.o zbh.ok (.o zau.ok (.o zcV.ok (.o zck.ok (.o zeH.ok (.o zfA.ok (.o zat.ok .z)))))))) [[tt, tt, tt, tt, tt, ff, ff], [tt, tt, tt, tt, tt, ff, ff, ff, tt, ff, tt, tt, ff, tt, tt], [tt, tt, tt, tt, tt, ff, ff, ff, tt, ff, tt, tt, tt]] fun k => [⟨[(2, .lf (.i .i64)), (3, .bx [.b, .is .u32, .i .i64]), (4, .bx [.b, .is .u32, .i .i64]), (6, .bx [.b, .is .u32, .i .i64]), (13, .lf (.is .u32)), (14, .lf (.is .u32)), (16, .lf (.i .i64))], zaI.l0 k⟩, ⟨[(2, .lf (.i .i64)), (3, .bx [.b, .is .u32, .i .i64]), (4, .bx [.b, .is .u32, .i .i64]), (6, .bx [.b, .is .u32, .i .i64]), (13, .lf (.is .u32)), (14, .lf (.is .u32)), (16, .lf (.i .i64)), (17, .lf (.is .u32)), (19, .lf (.i .u64)), (76, .lf (.b))], zaI.j2 k⟩, ⟨[(2, .lf (.i .i64)), (3, .bx [.b, .is .u32, .i .i64]), (4, .bx [.b, .is .u32, .i .i64]), (6, .bx [.b, .is .u32, .i .i64]), (13, .lf (.is .u32)), (14, .lf (.is .u32)), (16, .lf (.i .i64)), (19, .lf (.i .u64))], zaI.j3 k⟩]
theorem zbF.ok : Fo 173 (sg [.ag [.b, .is .u32, .i .i64], .ag [.b, .is .u32, .i .i64], .lf (.i .i64)] [.ag [.b, .is .u32, .i .i64], .lf (.b), .lf (.i .i64)]) zbF.f := fo 106 Tryz.func173 (.o zav.ok (.o zaV.ok (.o zau.ok (.o zeu.ok (.o zaI.ok (.o zcV.ok (.o zck.ok .z))))))) [[tt, ff, tt]] fun k => [⟨[(2, .lf (.i .i64)), (3, .bx [.b, .is .u32, .i .i64]), (4, .bx [.b, .is .u32, .i .i64]), (6, .bx [.b, .is .u32, .i .i64]), (24, .lf (.b))], zbF.j0 k⟩]
theorem zbx.ok : Fo 111 (sg [.lf (.i .u8), .lf (.i .u8), .ag [.b, .is .u32, .i .i64], .ag [.b, .is .u32, .i .i64]] [.lf (.i .u64), .lf (.i .u8), .lf (.i .i64)]) zbx.f := fo 85 Tryz.func111 (.o zT.ok (.o za9.ok (.o zcW.ok (.o zbb.ok (.o zbF.ok .z))))) [[tt, tt, tt, tt, tt, tt, tt]] fun k => [⟨[(0, .lf (.i .u8)), (1, .lf (.i .u8)), (6, .bx [.b, .is .u32, .i .i64]), (7, .bx [.b, .is .u32, .i .i64]), (11, .bx [.i .i64, .i .i64, .i .i64]), (13, .lf (.b)), (17, .bx [.i .u64, .i .i64, .b])], zbx.j1 k⟩]
theorem zcI.ok : Fo 49 (sg [.lf (.i .u8), .lf (.i .u8), .lf (.b), .lf (.is .u32), .lf (.i .i64)] [.lf (.i .u64), .lf (.i .u8), .lf (.i .i64)]) zcI.f := fo 77 Tryz.func49 (.o zaH.ok (.o zB.ok (.o zdj.ok (.o zdr.ok (.o zbx.ok .z)))))
theorem zfj.ok : Fo 60 (sg [.ag [.b, .s, .i .i64], .lf (.i .u8), .lf (.i .u8)] [.lf (.i .u64), .lf (.i .u8), .lf (.i .i64)]) zfj.f := fo 33 Tryz.func60 (.o zo.ok (.o zcI.ok .z))
theorem zeo.ok : Fo 59 (sg [.ag [.b, .s, .i .i64], .ip [.i .u8], .ip [.i .u64]] [.lf (.b)]) zeo.f := fo 18 Tryz.func59 (.o zfj.ok .z)
theorem zcH.ok : Fo 63 (sg [.ag [.b, .s, .i .i64], .lf (.i .i64)] [.lf (.i .i64)]) fun _ => zcH.f := fo 22 Tryz.func63 (.o zb5.ok .z)
theorem zfv.ok : Fo 271 (sg [.lf (.i .i64)] [.lf (.b)]) fun _ => zfv.f := fo 8 Tryz.func271 .z
theorem zQ.ok : Fo 261 (sg [.lf (.is .u8), .lf (.i .u64), .lf (.i .i64), .lf (.b), .lf (.b)] [.lf (.is .u8), .lf (.s)]) zQ.f := fo 102 Tryz.func261 (.o zfv.ok (.o zbQ.ok .z)) [[tt, tt, tt, tt, tt, ff, tt, ff, tt, tt, tt, ff, ff], [tt, tt, tt, tt, tt, ff, tt, tt, tt, ff, ff], [tt, tt, tt, tt, tt], [tt, tt, tt, tt, tt, tt], [tt, tt, tt, tt, tt, tt, tt]] fun k => [⟨[(0, .lf (.is .u8)), (1, .lf (.i .u64)), (3, .lf (.b)), (4, .lf (.b)), (10, .ow .u8), (11, .lf (.s)), (12, .ar .u8), (13, .lf (.i .i64)), (14, .lf (.i .u64)), (15, .lf (.i .u64)), (16, .lf (.i .u64))], zQ.l0 k⟩, ⟨[(0, .lf (.is .u8)), (1, .lf (.i .u64)), (3, .lf (.b)), (4, .lf (.b)), (10, .ow .u8), (11, .lf (.s)), (12, .ar .u8), (13, .lf (.i .i64)), (17, .lf (.i .u64))], zQ.l1 k⟩, ⟨[(0, .lf (.is .u8)), (1, .lf (.i .u64)), (2, .lf (.i .i64)), (3, .lf (.b)), (4, .lf (.b)), (10, .ow .u8), (11, .lf (.s)), (12, .ar .u8), (13, .lf (.i .i64))], zQ.j2 k⟩, ⟨[(0, .lf (.is .u8)), (3, .lf (.b)), (4, .lf (.b)), (10, .ow .u8), (11, .lf (.s)), (12, .ar .u8), (13, .lf (.i .i64))], zQ.j5 k⟩, ⟨[(0, .lf (.is .u8)), (4, .lf (.b)), (10, .ow .u8), (11, .lf (.s)), (12, .ar .u8), (13, .lf (.i .i64))], zQ.j6 k⟩]
theorem zfy.ok : Fo 258 (sg [.lf (.i .i64)] [.lf (.s)]) fun _ => zfy.f := fo 15 Tryz.func258 .z
theorem zfw.ok : Fo 269 (sg [.lf (.i .i64)] [.lf (.i .i64)]) fun _ => zfw.f := fo 6 Tryz.func269 .z
theorem zfu.ok : Fo 270 (sg [.lf (.b)] [.lf (.i .i64)]) fun _ => zfu.f := fo 4 Tryz.func270 .z
theorem zfx.ok : Fo 259 (sg [.lf (.i .u64)] [.lf (.i .i64)]) zfx.f := fo 15 Tryz.func259 (.o zz.ok (.o zfw.ok (.o zfu.ok .z)))
theorem zaK.ok : Fo 260 (sg [.bo .u8, .lf (.i .u64)] []) zaK.f := fo 167 Tryz.func260 .z [[tt, ff, ff], [tt, tt, tt, tt], [tt, tt, tt, tt, tt]] fun k => [⟨[(0, .bo .u8), (1, .lf (.i .u64)), (4, .lf (.i .i64))], zaK.l0 k⟩, ⟨[(0, .bo .u8), (4, .lf (.i .i64)), (12, .lf (.i .u32))], zaK.j1 k⟩, ⟨[(0, .bo .u8), (4, .lf (.i .i64)), (12, .lf (.i .u32))], zaK.j2 k⟩]
theorem zbY.ok : Fo 236 (sg [.lf (.i .i64), .lf (.i .i64)] [.lf (.s)]) zbY.f := fo 54 Tryz.func236 (.o zfy.ok (.o zfx.ok (.o zaK.ok (.o zQ.ok .z)))) [[tt, ff, tt, ff, tt, tt, tt, tt]] fun k => [⟨[(0, .lf (.i .i64)), (5, .ar .u8), (6, .lf (.i .u64))], zbY.j2 k⟩]
theorem zft.ok : Fo 188 (sg [.lf (.i .i64)] [.lf (.s)]) zft.f := fo 5 Tryz.func188 (.o zbY.ok .z)
theorem zct.ok : Fo 123 (sg [.lf (.i .i64)] [.lf (.s)]) zct.f := fo 5 Tryz.func123 (.o zft.ok .z)
end Go.Proofs.YtnkpmjhlkmlmbaaGreatDoor.Eng
namespace Go.Proofs
open Go.Shelf Go.RowKit Go.Proofs.YtnkpmjhlkmlmbaaGreatDoor.Eng
set_option maxRecDepth 100000
def Tryz.renWB : Ren := { Tryz.layRepeat_ren with f := fun n => if n = 167 then 121 else Tryz.layRepeat_ren.f n }
theorem Tryz.layWB : Lays.n167 Tryz.prog Tryz.renWB where
 mixed := Tryz.layRepeat.mixed
 f167 := by kernel_rfl
 f240 := by kernel_rfl
 f276 := by kernel_rfl
 t0 := Tryz.layRepeat.t0
 a0 := Tryz.layRepeat.a0
 z0 := Tryz.layRepeat.z0
 v0 := Tryz.layRepeat.v0
 t4 := Tryz.layRepeat.t4
 a4 := Tryz.layRepeat.a4
 z4 := Tryz.layRepeat.z4
 v4 := Tryz.layRepeat.v4
 t5 := Tryz.layRepeat.t5
 a5 := Tryz.layRepeat.a5
 z5 := Tryz.layRepeat.z5
 v5 := Tryz.layRepeat.v5
 t9 := Tryz.layRepeat.t9
 a9 := Tryz.layRepeat.a9
 z9 := Tryz.layRepeat.z9
 v9 := Tryz.layRepeat.v9
 t20 := Tryz.layRepeat.t20
 a20 := Tryz.layRepeat.a20
 z20 := Tryz.layRepeat.z20
 v20 := Tryz.layRepeat.v20
 t37 := Tryz.layRepeat.t37
 a37 := Tryz.layRepeat.a37
 z37 := Tryz.layRepeat.z37
 v37 := Tryz.layRepeat.v37
 t70 := Tryz.layRepeat.t70
 a70 := Tryz.layRepeat.a70
 z70 := Tryz.layRepeat.z70
 v70 := Tryz.layRepeat.v70
 t72 := Tryz.layRepeat.t72
 a72 := Tryz.layRepeat.a72
 z72 := Tryz.layRepeat.z72
 v72 := Tryz.layRepeat.v72
 t75 := Tryz.layRepeat.t75
 a75 := Tryz.layRepeat.a75
 z75 := Tryz.layRepeat.z75
 v75 := Tryz.layRepeat.v75
 t164 := Tryz.layRepeat.t164
 a164 := Tryz.layRepeat.a164
 z164 := Tryz.layRepeat.z164
 v164 := Tryz.layRepeat.v164
theorem Tryz.layWS : Lays.n166 Tryz.prog Tryz.layRepeat_ren := { Tryz.layRepeat with }
theorem Tryz.laySt : Lays.n169 Tryz.prog Tryz.layRepeat_ren := { Tryz.layRepeat with }
theorem Tryz.xWB : Builder.Extra Tryz.prog Tryz.renWB := { Tryz.extraRepeat with }
theorem bc_app (l : List UInt8) (s : ByteArray) : Lib.byteCells l ++ Lib.strCells s = Lib.byteCells (l ++ s.data.toList) := by
 rw [Lib.byteCells_append]; rfl
theorem Tryz.wb (B b : Nat) (l : List UInt8) (w : World) (h : Lib.IsBuilder 176 5 B b (Lib.byteCells l) w) (hlen : l.length ≤ 1000000000) (hBw : B ≤ w.heap.size) :
  Calls Tryz.prog 121 #[.pointer (some ⟨b, 0, none⟩), .int .u8 45] w fun e w' => e = .returned .nilIface ∧ Lib.IsBuilder 176 5 B b (Lib.byteCells (l ++ [45])) w' ∧ Below B w w' :=
 (Any.Builder_WriteByte Tryz.layWB Tryz.xWB B b (Lib.byteCells l) 45 w h (by rw [Lib.byteCells_length]; omega) hBw).mono fun e w' ⟨h1, h2, h3⟩ => ⟨h1, .inr (by rw [Lib.byteCells_append]; exact h2), h3⟩
theorem Tryz.ws (B b : Nat) (l : List UInt8) (s : ByteArray) (w : World) (h : Lib.IsBuilder 176 5 B b (Lib.byteCells l) w) (hlen : l.length ≤ 1000000000) (hs : s.size ≤ 1000000000) (hBw : B ≤ w.heap.size) :
  Calls Tryz.prog 122 #[.pointer (some ⟨b, 0, none⟩), .string s] w fun e w' => e = .returned (.tuple #[.int .i64 s.size, .nilIface]) ∧ Lib.IsBuilder 176 5 B b (Lib.byteCells (l ++ s.data.toList)) w' ∧ Below B w w' :=
 (Any.Builder_WriteString Tryz.layWS Tryz.extraRepeat B b (Lib.byteCells l) s w h (by rw [Lib.byteCells_length]; omega) hBw).mono fun e w' ⟨h1, h2, h3⟩ => ⟨h1, .inr (by rw [← bc_app]; exact h2), h3⟩
theorem Tryz.st (B b : Nat) (l : List UInt8) (w : World) (h : Lib.IsBuilder 176 5 B b (Lib.byteCells l) w) (hBw : B ≤ w.heap.size) :
  Calls Tryz.prog 125 #[.pointer (some ⟨b, 0, none⟩)] w fun e w' => e = .returned (.string ⟨l.toArray⟩) ∧ Below B w w' := Any.Builder_String_any Tryz.laySt Tryz.extraRepeat B b l w h hBw
theorem builder_below {T e : TypeId} {B b : Nat} {bs : List Value} {w w' : World} (h : Lib.IsBuilder T e B b bs w) (hb : Below w.heap.size w w') : Lib.IsBuilder T e B b bs w' := by
 have one : ∀ p, Lib.BuilderAt T e B b p bs w → Lib.BuilderAt T e B b p bs w' := by
  rintro p ⟨h1, v, h2, h3, h4⟩
  refine ⟨h1, v, ?_, ?_, h4⟩
  ·rw [hb.block b (Array.getElem?_eq_some_iff.1 h2).1]; exact h2
  ·obtain ⟨k1, k2 | ⟨g, cap, cur, k2, k3, k4, k5⟩⟩ := h3
   ·exact ⟨k1, .inl k2⟩
   ·exact ⟨k1, .inr ⟨g, cap, cur, k2, k3, by rw [hb.block g (Array.getElem?_eq_some_iff.1 k4).1]; exact k4, k5⟩⟩
 rcases h with h | h
 ·exact .inl (one _ h)
 ·exact .inr (one _ h)
theorem ba_ext {a b : ByteArray} (h : a.data.toList = b.data.toList) : a = b := by
 cases a; cases b
 congr
 exact Array.toList_inj.1 h
theorem ba_len (s : ByteArray) : s.data.toList.length = s.size := by rw [Array.length_toList]; rfl
theorem ba_app (a b : ByteArray) : (a ++ b).data.toList = a.data.toList ++ b.data.toList := by simp
set_option maxHeartbeats 8000000 in
set_option maxRecDepth 1000000 in
theorem Tryz.plain_walk (k : Nat) (neg : Bool) (d : ByteArray) (x : Int) (r : ByteArray) (hr : zV.f k neg d x = some r) (hx1 : -9223372036854775808 ≤ x) (hx2 : x < 9223372036854775808) (w : World)
 (hI : ∀ it, zct.f k x = some it → ∀ w1 : World, Below w.heap.size w w1 → Calls Tryz.prog 123 #[.int .i64 x] w1 fun e w' => e = .returned (.string it) ∧ Below w1.heap.size w1 w') :
  Calls Tryz.prog 65 #[.agg #[.bool neg, .string d, .int .i64 x]] w fun e w' => e = .returned (.string r) ∧ Below w.heap.size w w' := by
 unfold zV.f at hr
 split at hr
 case isFalse => cases hr
 rename_i hb
 obtain ⟨hb1, hb2, hb3⟩ := hb
 have hw : ∀ n : Int, -4000000 ≤ n → n ≤ 4000000 → wrap64 n = n := fun n h1 h2 => by unfold wrap64; omega
 have hRep : ∀ (n : Int) (z : ByteArray) (w1 : World), zan.f (⟨#[48]⟩ : ByteArray) n = some z → Calls Tryz.prog 124 #[.string ⟨#[48]⟩, .int .i64 n] w1 fun e w' => e = .returned (.string z) ∧ Below w1.heap.size w1 w' := by
  intro n z w1 hz
  unfold zan.f at hz
  split at hz
  case isFalse => cases hz
  rename_i h
  obtain rfl := Option.some.inj hz
  have := Any.strings_Repeat Tryz.layRepeat Tryz.extraRepeat ⟨#[48]⟩ n.toNat w1 (by omega) h.2.1
  rw [Int.toNat_of_nonneg h.1] at this
  exact this
 have hRs : ∀ (n : Int) (z : ByteArray), zan.f (⟨#[48]⟩ : ByteArray) n = some z → n ≤ 10000000 → z.size ≤ 10000000 := by
  intro n z hz hn
  unfold zan.f at hz
  split at hz
  case isFalse => cases hz
  rename_i h
  obtain rfl := Option.some.inj hz
  show (Lib.repeatL [48] n.toNat).toArray.size ≤ _
  rw [List.size_toArray, Lib.repeatL_length]
  simp
  omega
 have hex : ∀ i j, (d.extract i j).size ≤ 1000000 := fun i j => by rw [ByteArray.size_extract]; omega
 go_enter Tryz.func65, Tryz.ntmps65
 cases neg with
 | false =>
  have hB0 : Lib.IsBuilder 176 5 (w.heap.size + 1) (w.heap.size + 1) (Lib.byteCells []) ((w.alloc (Obj.cells #[Value.bool false, Value.string d, Value.int IntKind.i64 x] 96)).alloc (Obj.cells #[Value.pointer none, Value.slice none 0 0] 176)) := by
   have := Lib.fresh_isBuilder 176 5 (w.alloc (Obj.cells #[Value.bool false, Value.string d, Value.int IntKind.i64 x] 96))
   have e : (w.alloc (Obj.cells #[Value.bool false, Value.string d, Value.int IntKind.i64 x] 96)).heap.size = w.heap.size + 1 := by simp
   rw [e] at this
   exact this
  have hbel0 : Below w.heap.size w ((w.alloc (Obj.cells #[Value.bool false, Value.string d, Value.int IntKind.i64 x] 96)).alloc (Obj.cells #[Value.pointer none, Value.slice none 0 0] 176)) := ((Below.refl _ w).alloc (Nat.le_refl _) _).alloc (by simp) _
  have hsz0 : w.heap.size + 2 ≤ ((w.alloc (Obj.cells #[Value.bool false, Value.string d, Value.int IntKind.i64 x] 96)).alloc (Obj.cells #[Value.pointer none, Value.slice none 0 0] 176)).heap.size := by simp
  have hc10 : ((w.alloc (Obj.cells #[Value.bool false, Value.string d, Value.int IntKind.i64 x] 96)).alloc (Obj.cells #[Value.pointer none, Value.slice none 0 0] 176)).cell? ⟨w.heap.size, 1, none⟩ = some (.string d) := by go_simp
  have hc20 : ((w.alloc (Obj.cells #[Value.bool false, Value.string d, Value.int IntKind.i64 x] 96)).alloc (Obj.cells #[Value.pointer none, Value.slice none 0 0] 176)).cell? ⟨w.heap.size, 2, none⟩ = some (.int .i64 x) := by go_simp
  go_wp2_with (fail)
  generalize ((w.alloc (Obj.cells #[Value.bool false, Value.string d, Value.int IntKind.i64 x] 96)).alloc (Obj.cells #[Value.pointer none, Value.slice none 0 0] 176)) = W1 at *
  have hB := hB0
  have hbel := hbel0
  have hsz := hsz0
  have hc1 := hc10
  have hc2 := hc20
  have hB1 : Lib.IsBuilder 176 5 (w.heap.size + 1) (w.heap.size + 1) (Lib.byteCells ([] : List UInt8)) W1.drew := by
   rcases hB with h | h
   ·exact .inl h.drew
   ·exact .inr h.drew
  have hw1 : Below w.heap.size w W1.drew := hbel.drew
  have hs1 : w.heap.size + 2 ≤ W1.drew.heap.size := hsz
  clear hB hbel hsz hB0 hbel0 hsz0 hc10 hc20
  go_region
  all_goals go_wp2_with (fail)
  ·rw [if_pos (by omega)] at hr
   split at hr
   case isFalse => cases hr
   rename_i hd1
   obtain ⟨it, hit, hr⟩ := Option.bind_eq_some_iff.1 hr
   split at hr
   case isFalse => cases hr
   rename_i hits
   obtain rfl := Option.some.inj hr
   refine (Tryz.ws (w.heap.size + 1) (w.heap.size + 1) ([] : List UInt8) (d.extract 0 1) _ hB1 (by simp) (Nat.le_trans (hex 0 1) (by omega)) (by omega)).mono ?_
   rintro e W2 ⟨rfl, hB2, b2⟩
   have s2 := b2.size
   have hw2 := hw1.trans (b2.mono (by omega))
   have l2 : (([] : List UInt8) ++ (d.extract 0 1).data.toList).length ≤ 1000001 := by
    have := hex 0 1
    have h1 : (d.extract 0 1).data.toList.length = (d.extract 0 1).size := by simp
    rw [List.length_append, h1]; simp; omega
   have hse : ((⟨#[101]⟩ : ByteArray) ++ it).size ≤ 2000000 := by rw [ByteArray.size_append]; have h1 : (⟨#[101]⟩ : ByteArray).size = 1 := rfl; omega
   have hsd : ((⟨#[46]⟩ : ByteArray) ++ d.extract 1 d.size).size ≤ 2000000 := by rw [ByteArray.size_append]; have := hex 1 d.size; have h1 : (⟨#[46]⟩ : ByteArray).size = 1 := rfl; omega
   have hx1' := hex 1 d.size
   have fin : ∀ (L3 : List UInt8) (W3 : World), w.heap.size + 2 ≤ W3.heap.size → L3.length ≤ 4000000 → Lib.IsBuilder 176 5 (w.heap.size + 1) (w.heap.size + 1) (Lib.byteCells L3) W3 → Below w.heap.size w W3 →
     Calls Tryz.prog 123 #[.int .i64 x] W3 (fun e w' => e = .returned (.string it) ∧ Lib.IsBuilder 176 5 (w.heap.size + 1) (w.heap.size + 1) (Lib.byteCells L3) w' ∧ Below w.heap.size w w' ∧ W3.heap.size ≤ w'.heap.size) := by
    intro L3 W3 h1 h2 h3 h4
    refine (hI it hit W3 h4).mono ?_
    rintro e w' ⟨h5, h6⟩
    exact ⟨h5, builder_below h3 h6, h4.trans (h6.mono (by omega)), h6.size⟩
   go_wp2_with (fail)
   ·rename_i hd2
    refine (Tryz.ws (w.heap.size + 1) (w.heap.size + 1) _ _ _ hB2 (by omega) (by omega) (by omega)).mono ?_
    rintro e W3 ⟨rfl, hB3, b3⟩
    have s3 := b3.size
    have hw3 := hw2.trans (b3.mono (by omega))
    have l3 : (([] : List UInt8) ++ (d.extract 0 1).data.toList ++ ((⟨#[46]⟩ : ByteArray) ++ d.extract 1 d.size).data.toList).length ≤ 3500000 := by
     have h1 : ((⟨#[46]⟩ : ByteArray) ++ d.extract 1 d.size).data.toList.length = ((⟨#[46]⟩ : ByteArray) ++ d.extract 1 d.size).size := ba_len _
     rw [List.length_append, h1]; omega
    go_wp2_with (fail)
    refine (fin _ W3 (by omega) (by omega) hB3 hw3).mono ?_
    rintro e W4 ⟨rfl, hB4, hw4, s4⟩
    go_wp2_with (fail)
    refine (Tryz.ws (w.heap.size + 1) (w.heap.size + 1) _ _ _ hB4 (by omega) (by omega) (by omega)).mono ?_
    rintro e W5 ⟨rfl, hB5, b5⟩
    have s5 := b5.size
    have hw5 := hw4.trans (b5.mono (by omega))
    go_wp2_with (fail)
    have hd3 : d.size > 1 := by omega
    refine (Tryz.st (w.heap.size + 1) (w.heap.size + 1) _ _ hB5 (by omega)).mono ?_
    rintro e W9 ⟨rfl, b9⟩
    go_wp2_with (fail)
    go_ret
    exact ⟨congrArg (fun s => Ending.returned (Value.string s)) (ba_ext (by simp only [ba_app, List.append_assoc, if_pos hd3, List.nil_append, List.append_nil, List.singleton_append, List.cons_append, List.toList_toArray, if_true, Bool.false_eq_true, if_false, ByteArray.data_extract, Array.toList_extract, List.extract_eq_take_drop, List.drop_zero, Nat.sub_zero, List.drop_one])), hw5.trans (b9.mono (by omega))⟩
   ·rename_i hd2
    refine (fin _ W2 (by omega) (by omega) hB2 hw2).mono ?_
    rintro e W4 ⟨rfl, hB4, hw4, s4⟩
    go_wp2_with (fail)
    refine (Tryz.ws (w.heap.size + 1) (w.heap.size + 1) _ _ _ hB4 (by omega) (by omega) (by omega)).mono ?_
    rintro e W5 ⟨rfl, hB5, b5⟩
    have s5 := b5.size
    have hw5 := hw4.trans (b5.mono (by omega))
    go_wp2_with (fail)
    have hd3 : ¬ d.size > 1 := by omega
    refine (Tryz.st (w.heap.size + 1) (w.heap.size + 1) _ _ hB5 (by omega)).mono ?_
    rintro e W9 ⟨rfl, b9⟩
    go_wp2_with (fail)
    go_ret
    exact ⟨congrArg (fun s => Ending.returned (Value.string s)) (ba_ext (by simp only [ba_app, List.append_assoc, if_neg hd3, List.nil_append, List.append_nil, List.singleton_append, List.cons_append, List.toList_toArray, if_true, Bool.false_eq_true, if_false, ByteArray.data_extract, Array.toList_extract, List.extract_eq_take_drop, List.drop_zero, Nat.sub_zero, List.drop_one])), hw5.trans (b9.mono (by omega))⟩
  ·exfalso
   rw [if_pos (by omega)] at hr
   split at hr
   ·omega
   ·cases hr
  ·rw [if_neg (by omega), if_pos (by omega)] at hr
   obtain ⟨z, hz, hr⟩ := Option.bind_eq_some_iff.1 hr
   obtain rfl := Option.some.inj hr
   have hzs := hRs _ _ hz (by omega)
   refine (hRep _ z _ hz).mono ?_
   rintro e W2 ⟨rfl, b2⟩
   have s2 := b2.size
   have hB2 := builder_below hB1 b2
   have hw2 := hw1.trans (b2.mono (by omega))
   have h02 : (⟨#[48, 46]⟩ : ByteArray).size = 2 := rfl
   have hza : ((⟨#[48, 46]⟩ : ByteArray) ++ z).size = 2 + z.size := by rw [ByteArray.size_append]; omega
   have hzb : ((⟨#[48, 46]⟩ : ByteArray) ++ z ++ d).size = 2 + z.size + d.size := by rw [ByteArray.size_append]; omega
   go_wp2_with (fail)
   refine (Tryz.ws (w.heap.size + 1) (w.heap.size + 1) _ _ _ hB2 (by simp) (by omega) (by omega)).mono ?_
   rintro e W5 ⟨rfl, hB5, b5⟩
   have s5 := b5.size
   have hw5 := hw2.trans (b5.mono (by omega))
   go_wp2_with (fail)
   refine (Tryz.st (w.heap.size + 1) (w.heap.size + 1) _ _ hB5 (by omega)).mono ?_
   rintro e W9 ⟨rfl, b9⟩
   go_wp2_with (fail)
   go_ret
   exact ⟨congrArg (fun s => Ending.returned (Value.string s)) (ba_ext (by simp only [ba_app, List.append_assoc, List.nil_append, List.append_nil, List.singleton_append, List.cons_append, List.toList_toArray, if_true, Bool.false_eq_true, if_false, ByteArray.data_extract, Array.toList_extract, List.extract_eq_take_drop, List.drop_zero, Nat.sub_zero, List.drop_one])), hw5.trans (b9.mono (by omega))⟩
  ·rw [if_neg (by omega), if_neg (by omega), if_pos (by omega)] at hr
   obtain rfl := Option.some.inj hr
   have h46 : (⟨#[46]⟩ : ByteArray).size = 1 := rfl
   have hxa := hex 0 (x + 1).toNat
   have hxb := hex (x + 1).toNat d.size
   have hza : (d.extract 0 (x + 1).toNat ++ (⟨#[46]⟩ : ByteArray)).size = (d.extract 0 (x + 1).toNat).size + 1 := by rw [ByteArray.size_append, h46]
   have hzb : (d.extract 0 (x + 1).toNat ++ (⟨#[46]⟩ : ByteArray) ++ d.extract (x + 1).toNat d.size).size = (d.extract 0 (x + 1).toNat).size + 1 + (d.extract (x + 1).toNat d.size).size := by rw [ByteArray.size_append, hza]
   have hB2 : Lib.IsBuilder 176 5 (w.heap.size + 1) (w.heap.size + 1) (Lib.byteCells ([] : List UInt8)) W1.drew.drew := by
    rcases hB1 with h | h
    ·exact .inl h.drew
    ·exact .inr h.drew
   have hs2 : w.heap.size + 2 ≤ W1.drew.drew.heap.size := hs1
   have q1 : x + 1 ≤ (d.size : Int) := by omega
   have q2 : 0 ≤ x + 1 := by omega
   have q3 : IntKind.i64.wrap (x + 1) = x + 1 := by simp [IntKind.wrap, IntKind.bits, IntKind.signed]; omega
   go_region_with (go_at_call 122; refine (Tryz.ws (w.heap.size + 1) (w.heap.size + 1) _ _ _ hB2 (by simp) (by omega) (by omega)).mono ?_; rintro e W5 ⟨rfl, hB5, b5⟩)
   have s5 := b5.size
   have hw5 := hw1.drew.trans (b5.mono (by omega))
   go_wp2_with (fail)
   refine (Tryz.st (w.heap.size + 1) (w.heap.size + 1) _ _ hB5 (by omega)).mono ?_
   rintro e W9 ⟨rfl, b9⟩
   go_wp2_with (fail)
   go_ret
   exact ⟨congrArg (fun s => Ending.returned (Value.string s)) (ba_ext (by simp only [ba_app, List.append_assoc, List.nil_append, List.append_nil, List.singleton_append, List.cons_append, List.toList_toArray, if_true, Bool.false_eq_true, if_false, ByteArray.data_extract, Array.toList_extract, List.extract_eq_take_drop, List.drop_zero, Nat.sub_zero, List.drop_one])), hw5.trans (b9.mono (by omega))⟩
  ·rw [if_neg (by omega), if_neg (by omega), if_neg (by omega)] at hr
   obtain ⟨z, hz, hr⟩ := Option.bind_eq_some_iff.1 hr
   obtain rfl := Option.some.inj hr
   have hzs := hRs _ _ hz (by omega)
   refine (hRep _ z _ hz).mono ?_
   rintro e W2 ⟨rfl, b2⟩
   have s2 := b2.size
   have hB2 := builder_below hB1 b2
   have hw2 := hw1.trans (b2.mono (by omega))
   have hza : (d ++ z).size = d.size + z.size := by rw [ByteArray.size_append]
   go_wp2_with (fail)
   refine (Tryz.ws (w.heap.size + 1) (w.heap.size + 1) _ _ _ hB2 (by simp) (by omega) (by omega)).mono ?_
   rintro e W5 ⟨rfl, hB5, b5⟩
   have s5 := b5.size
   have hw5 := hw2.trans (b5.mono (by omega))
   go_wp2_with (fail)
   refine (Tryz.st (w.heap.size + 1) (w.heap.size + 1) _ _ hB5 (by omega)).mono ?_
   rintro e W9 ⟨rfl, b9⟩
   go_wp2_with (fail)
   go_ret
   exact ⟨congrArg (fun s => Ending.returned (Value.string s)) (ba_ext (by simp only [ba_app, List.append_assoc, List.nil_append, List.append_nil, List.singleton_append, List.cons_append, List.toList_toArray, if_true, Bool.false_eq_true, if_false, ByteArray.data_extract, Array.toList_extract, List.extract_eq_take_drop, List.drop_zero, Nat.sub_zero, List.drop_one])), hw5.trans (b9.mono (by omega))⟩
  ·rw [if_pos (by omega)] at hr
   split at hr
   case isFalse => cases hr
   rename_i hd1
   obtain ⟨it, hit, hr⟩ := Option.bind_eq_some_iff.1 hr
   split at hr
   case isFalse => cases hr
   rename_i hits
   obtain rfl := Option.some.inj hr
   refine (Tryz.ws (w.heap.size + 1) (w.heap.size + 1) ([] : List UInt8) (d.extract 0 1) _ hB1 (by simp) (Nat.le_trans (hex 0 1) (by omega)) (by omega)).mono ?_
   rintro e W2 ⟨rfl, hB2, b2⟩
   have s2 := b2.size
   have hw2 := hw1.trans (b2.mono (by omega))
   have l2 : (([] : List UInt8) ++ (d.extract 0 1).data.toList).length ≤ 1000001 := by
    have := hex 0 1
    have h1 : (d.extract 0 1).data.toList.length = (d.extract 0 1).size := by simp
    rw [List.length_append, h1]; simp; omega
   have hse : ((⟨#[101]⟩ : ByteArray) ++ it).size ≤ 2000000 := by rw [ByteArray.size_append]; have h1 : (⟨#[101]⟩ : ByteArray).size = 1 := rfl; omega
   have hsd : ((⟨#[46]⟩ : ByteArray) ++ d.extract 1 d.size).size ≤ 2000000 := by rw [ByteArray.size_append]; have := hex 1 d.size; have h1 : (⟨#[46]⟩ : ByteArray).size = 1 := rfl; omega
   have hx1' := hex 1 d.size
   have fin : ∀ (L3 : List UInt8) (W3 : World), w.heap.size + 2 ≤ W3.heap.size → L3.length ≤ 4000000 → Lib.IsBuilder 176 5 (w.heap.size + 1) (w.heap.size + 1) (Lib.byteCells L3) W3 → Below w.heap.size w W3 →
     Calls Tryz.prog 123 #[.int .i64 x] W3 (fun e w' => e = .returned (.string it) ∧ Lib.IsBuilder 176 5 (w.heap.size + 1) (w.heap.size + 1) (Lib.byteCells L3) w' ∧ Below w.heap.size w w' ∧ W3.heap.size ≤ w'.heap.size) := by
    intro L3 W3 h1 h2 h3 h4
    refine (hI it hit W3 h4).mono ?_
    rintro e w' ⟨h5, h6⟩
    exact ⟨h5, builder_below h3 h6, h4.trans (h6.mono (by omega)), h6.size⟩
   go_wp2_with (fail)
   ·rename_i hd2
    refine (Tryz.ws (w.heap.size + 1) (w.heap.size + 1) _ _ _ hB2 (by omega) (by omega) (by omega)).mono ?_
    rintro e W3 ⟨rfl, hB3, b3⟩
    have s3 := b3.size
    have hw3 := hw2.trans (b3.mono (by omega))
    have l3 : (([] : List UInt8) ++ (d.extract 0 1).data.toList ++ ((⟨#[46]⟩ : ByteArray) ++ d.extract 1 d.size).data.toList).length ≤ 3500000 := by
     have h1 : ((⟨#[46]⟩ : ByteArray) ++ d.extract 1 d.size).data.toList.length = ((⟨#[46]⟩ : ByteArray) ++ d.extract 1 d.size).size := ba_len _
     rw [List.length_append, h1]; omega
    go_wp2_with (fail)
    refine (fin _ W3 (by omega) (by omega) hB3 hw3).mono ?_
    rintro e W4 ⟨rfl, hB4, hw4, s4⟩
    go_wp2_with (fail)
    refine (Tryz.ws (w.heap.size + 1) (w.heap.size + 1) _ _ _ hB4 (by omega) (by omega) (by omega)).mono ?_
    rintro e W5 ⟨rfl, hB5, b5⟩
    have s5 := b5.size
    have hw5 := hw4.trans (b5.mono (by omega))
    go_wp2_with (fail)
    have hd3 : d.size > 1 := by omega
    refine (Tryz.st (w.heap.size + 1) (w.heap.size + 1) _ _ hB5 (by omega)).mono ?_
    rintro e W9 ⟨rfl, b9⟩
    go_wp2_with (fail)
    go_ret
    exact ⟨congrArg (fun s => Ending.returned (Value.string s)) (ba_ext (by simp only [ba_app, List.append_assoc, if_pos hd3, List.nil_append, List.append_nil, List.singleton_append, List.cons_append, List.toList_toArray, if_true, Bool.false_eq_true, if_false, ByteArray.data_extract, Array.toList_extract, List.extract_eq_take_drop, List.drop_zero, Nat.sub_zero, List.drop_one])), hw5.trans (b9.mono (by omega))⟩
   ·rename_i hd2
    refine (fin _ W2 (by omega) (by omega) hB2 hw2).mono ?_
    rintro e W4 ⟨rfl, hB4, hw4, s4⟩
    go_wp2_with (fail)
    refine (Tryz.ws (w.heap.size + 1) (w.heap.size + 1) _ _ _ hB4 (by omega) (by omega) (by omega)).mono ?_
    rintro e W5 ⟨rfl, hB5, b5⟩
    have s5 := b5.size
    have hw5 := hw4.trans (b5.mono (by omega))
    go_wp2_with (fail)
    have hd3 : ¬ d.size > 1 := by omega
    refine (Tryz.st (w.heap.size + 1) (w.heap.size + 1) _ _ hB5 (by omega)).mono ?_
    rintro e W9 ⟨rfl, b9⟩
    go_wp2_with (fail)
    go_ret
    exact ⟨congrArg (fun s => Ending.returned (Value.string s)) (ba_ext (by simp only [ba_app, List.append_assoc, if_neg hd3, List.nil_append, List.append_nil, List.singleton_append, List.cons_append, List.toList_toArray, if_true, Bool.false_eq_true, if_false, ByteArray.data_extract, Array.toList_extract, List.extract_eq_take_drop, List.drop_zero, Nat.sub_zero, List.drop_one])), hw5.trans (b9.mono (by omega))⟩
  ·exfalso
   rw [if_pos (by omega)] at hr
   split at hr
   ·omega
   ·cases hr
 | true =>
  have hB0 : Lib.IsBuilder 176 5 (w.heap.size + 1) (w.heap.size + 1) (Lib.byteCells []) ((w.alloc (Obj.cells #[Value.bool true, Value.string d, Value.int IntKind.i64 x] 96)).alloc (Obj.cells #[Value.pointer none, Value.slice none 0 0] 176)) := by
   have := Lib.fresh_isBuilder 176 5 (w.alloc (Obj.cells #[Value.bool true, Value.string d, Value.int IntKind.i64 x] 96))
   have e : (w.alloc (Obj.cells #[Value.bool true, Value.string d, Value.int IntKind.i64 x] 96)).heap.size = w.heap.size + 1 := by simp
   rw [e] at this
   exact this
  have hbel0 : Below w.heap.size w ((w.alloc (Obj.cells #[Value.bool true, Value.string d, Value.int IntKind.i64 x] 96)).alloc (Obj.cells #[Value.pointer none, Value.slice none 0 0] 176)) := ((Below.refl _ w).alloc (Nat.le_refl _) _).alloc (by simp) _
  have hsz0 : w.heap.size + 2 ≤ ((w.alloc (Obj.cells #[Value.bool true, Value.string d, Value.int IntKind.i64 x] 96)).alloc (Obj.cells #[Value.pointer none, Value.slice none 0 0] 176)).heap.size := by simp
  have hc10 : ((w.alloc (Obj.cells #[Value.bool true, Value.string d, Value.int IntKind.i64 x] 96)).alloc (Obj.cells #[Value.pointer none, Value.slice none 0 0] 176)).cell? ⟨w.heap.size, 1, none⟩ = some (.string d) := by go_simp
  have hc20 : ((w.alloc (Obj.cells #[Value.bool true, Value.string d, Value.int IntKind.i64 x] 96)).alloc (Obj.cells #[Value.pointer none, Value.slice none 0 0] 176)).cell? ⟨w.heap.size, 2, none⟩ = some (.int .i64 x) := by go_simp
  go_wp2_with (fail)
  refine (Tryz.wb (w.heap.size + 1) (w.heap.size + 1) [] _ hB0 (by simp) (by omega)).mono ?_
  rintro e W1 ⟨rfl, hB, b1⟩
  have hbel := hbel0.trans (b1.mono (by omega))
  have hsz : w.heap.size + 2 ≤ W1.heap.size := Nat.le_trans hsz0 b1.size
  have hc1 : W1.cell? ⟨w.heap.size, 1, none⟩ = some (.string d) := by rw [b1.cell (by show w.heap.size < w.heap.size + 1; omega)]; exact hc10
  have hc2 : W1.cell? ⟨w.heap.size, 2, none⟩ = some (.int .i64 x) := by rw [b1.cell (by show w.heap.size < w.heap.size + 1; omega)]; exact hc20
  go_wp2_with (fail)
  have hB1 : Lib.IsBuilder 176 5 (w.heap.size + 1) (w.heap.size + 1) (Lib.byteCells ([45] : List UInt8)) W1.drew := by
   rcases hB with h | h
   ·exact .inl h.drew
   ·exact .inr h.drew
  have hw1 : Below w.heap.size w W1.drew := hbel.drew
  have hs1 : w.heap.size + 2 ≤ W1.drew.heap.size := hsz
  clear hB hbel hsz hB0 hbel0 hsz0 hc10 hc20
  go_region
  all_goals go_wp2_with (fail)
  ·rw [if_pos (by omega)] at hr
   split at hr
   case isFalse => cases hr
   rename_i hd1
   obtain ⟨it, hit, hr⟩ := Option.bind_eq_some_iff.1 hr
   split at hr
   case isFalse => cases hr
   rename_i hits
   obtain rfl := Option.some.inj hr
   refine (Tryz.ws (w.heap.size + 1) (w.heap.size + 1) ([45] : List UInt8) (d.extract 0 1) _ hB1 (by simp) (Nat.le_trans (hex 0 1) (by omega)) (by omega)).mono ?_
   rintro e W2 ⟨rfl, hB2, b2⟩
   have s2 := b2.size
   have hw2 := hw1.trans (b2.mono (by omega))
   have l2 : (([45] : List UInt8) ++ (d.extract 0 1).data.toList).length ≤ 1000001 := by
    have := hex 0 1
    have h1 : (d.extract 0 1).data.toList.length = (d.extract 0 1).size := by simp
    rw [List.length_append, h1]; simp; omega
   have hse : ((⟨#[101]⟩ : ByteArray) ++ it).size ≤ 2000000 := by rw [ByteArray.size_append]; have h1 : (⟨#[101]⟩ : ByteArray).size = 1 := rfl; omega
   have hsd : ((⟨#[46]⟩ : ByteArray) ++ d.extract 1 d.size).size ≤ 2000000 := by rw [ByteArray.size_append]; have := hex 1 d.size; have h1 : (⟨#[46]⟩ : ByteArray).size = 1 := rfl; omega
   have hx1' := hex 1 d.size
   have fin : ∀ (L3 : List UInt8) (W3 : World), w.heap.size + 2 ≤ W3.heap.size → L3.length ≤ 4000000 → Lib.IsBuilder 176 5 (w.heap.size + 1) (w.heap.size + 1) (Lib.byteCells L3) W3 → Below w.heap.size w W3 →
     Calls Tryz.prog 123 #[.int .i64 x] W3 (fun e w' => e = .returned (.string it) ∧ Lib.IsBuilder 176 5 (w.heap.size + 1) (w.heap.size + 1) (Lib.byteCells L3) w' ∧ Below w.heap.size w w' ∧ W3.heap.size ≤ w'.heap.size) := by
    intro L3 W3 h1 h2 h3 h4
    refine (hI it hit W3 h4).mono ?_
    rintro e w' ⟨h5, h6⟩
    exact ⟨h5, builder_below h3 h6, h4.trans (h6.mono (by omega)), h6.size⟩
   go_wp2_with (fail)
   ·rename_i hd2
    refine (Tryz.ws (w.heap.size + 1) (w.heap.size + 1) _ _ _ hB2 (by omega) (by omega) (by omega)).mono ?_
    rintro e W3 ⟨rfl, hB3, b3⟩
    have s3 := b3.size
    have hw3 := hw2.trans (b3.mono (by omega))
    have l3 : (([45] : List UInt8) ++ (d.extract 0 1).data.toList ++ ((⟨#[46]⟩ : ByteArray) ++ d.extract 1 d.size).data.toList).length ≤ 3500000 := by
     have h1 : ((⟨#[46]⟩ : ByteArray) ++ d.extract 1 d.size).data.toList.length = ((⟨#[46]⟩ : ByteArray) ++ d.extract 1 d.size).size := ba_len _
     rw [List.length_append, h1]; omega
    go_wp2_with (fail)
    refine (fin _ W3 (by omega) (by omega) hB3 hw3).mono ?_
    rintro e W4 ⟨rfl, hB4, hw4, s4⟩
    go_wp2_with (fail)
    refine (Tryz.ws (w.heap.size + 1) (w.heap.size + 1) _ _ _ hB4 (by omega) (by omega) (by omega)).mono ?_
    rintro e W5 ⟨rfl, hB5, b5⟩
    have s5 := b5.size
    have hw5 := hw4.trans (b5.mono (by omega))
    go_wp2_with (fail)
    have hd3 : d.size > 1 := by omega
    refine (Tryz.st (w.heap.size + 1) (w.heap.size + 1) _ _ hB5 (by omega)).mono ?_
    rintro e W9 ⟨rfl, b9⟩
    go_wp2_with (fail)
    go_ret
    exact ⟨congrArg (fun s => Ending.returned (Value.string s)) (ba_ext (by simp only [ba_app, List.append_assoc, if_pos hd3, List.nil_append, List.append_nil, List.singleton_append, List.cons_append, List.toList_toArray, if_true, Bool.false_eq_true, if_false, ByteArray.data_extract, Array.toList_extract, List.extract_eq_take_drop, List.drop_zero, Nat.sub_zero, List.drop_one])), hw5.trans (b9.mono (by omega))⟩
   ·rename_i hd2
    refine (fin _ W2 (by omega) (by omega) hB2 hw2).mono ?_
    rintro e W4 ⟨rfl, hB4, hw4, s4⟩
    go_wp2_with (fail)
    refine (Tryz.ws (w.heap.size + 1) (w.heap.size + 1) _ _ _ hB4 (by omega) (by omega) (by omega)).mono ?_
    rintro e W5 ⟨rfl, hB5, b5⟩
    have s5 := b5.size
    have hw5 := hw4.trans (b5.mono (by omega))
    go_wp2_with (fail)
    have hd3 : ¬ d.size > 1 := by omega
    refine (Tryz.st (w.heap.size + 1) (w.heap.size + 1) _ _ hB5 (by omega)).mono ?_
    rintro e W9 ⟨rfl, b9⟩
    go_wp2_with (fail)
    go_ret
    exact ⟨congrArg (fun s => Ending.returned (Value.string s)) (ba_ext (by simp only [ba_app, List.append_assoc, if_neg hd3, List.nil_append, List.append_nil, List.singleton_append, List.cons_append, List.toList_toArray, if_true, Bool.false_eq_true, if_false, ByteArray.data_extract, Array.toList_extract, List.extract_eq_take_drop, List.drop_zero, Nat.sub_zero, List.drop_one])), hw5.trans (b9.mono (by omega))⟩
  ·exfalso
   rw [if_pos (by omega)] at hr
   split at hr
   ·omega
   ·cases hr
  ·rw [if_neg (by omega), if_pos (by omega)] at hr
   obtain ⟨z, hz, hr⟩ := Option.bind_eq_some_iff.1 hr
   obtain rfl := Option.some.inj hr
   have hzs := hRs _ _ hz (by omega)
   refine (hRep _ z _ hz).mono ?_
   rintro e W2 ⟨rfl, b2⟩
   have s2 := b2.size
   have hB2 := builder_below hB1 b2
   have hw2 := hw1.trans (b2.mono (by omega))
   have h02 : (⟨#[48, 46]⟩ : ByteArray).size = 2 := rfl
   have hza : ((⟨#[48, 46]⟩ : ByteArray) ++ z).size = 2 + z.size := by rw [ByteArray.size_append]; omega
   have hzb : ((⟨#[48, 46]⟩ : ByteArray) ++ z ++ d).size = 2 + z.size + d.size := by rw [ByteArray.size_append]; omega
   go_wp2_with (fail)
   refine (Tryz.ws (w.heap.size + 1) (w.heap.size + 1) _ _ _ hB2 (by simp) (by omega) (by omega)).mono ?_
   rintro e W5 ⟨rfl, hB5, b5⟩
   have s5 := b5.size
   have hw5 := hw2.trans (b5.mono (by omega))
   go_wp2_with (fail)
   refine (Tryz.st (w.heap.size + 1) (w.heap.size + 1) _ _ hB5 (by omega)).mono ?_
   rintro e W9 ⟨rfl, b9⟩
   go_wp2_with (fail)
   go_ret
   exact ⟨congrArg (fun s => Ending.returned (Value.string s)) (ba_ext (by simp only [ba_app, List.append_assoc, List.nil_append, List.append_nil, List.singleton_append, List.cons_append, List.toList_toArray, if_true, Bool.false_eq_true, if_false, ByteArray.data_extract, Array.toList_extract, List.extract_eq_take_drop, List.drop_zero, Nat.sub_zero, List.drop_one])), hw5.trans (b9.mono (by omega))⟩
  ·rw [if_neg (by omega), if_neg (by omega), if_pos (by omega)] at hr
   obtain rfl := Option.some.inj hr
   have h46 : (⟨#[46]⟩ : ByteArray).size = 1 := rfl
   have hxa := hex 0 (x + 1).toNat
   have hxb := hex (x + 1).toNat d.size
   have hza : (d.extract 0 (x + 1).toNat ++ (⟨#[46]⟩ : ByteArray)).size = (d.extract 0 (x + 1).toNat).size + 1 := by rw [ByteArray.size_append, h46]
   have hzb : (d.extract 0 (x + 1).toNat ++ (⟨#[46]⟩ : ByteArray) ++ d.extract (x + 1).toNat d.size).size = (d.extract 0 (x + 1).toNat).size + 1 + (d.extract (x + 1).toNat d.size).size := by rw [ByteArray.size_append, hza]
   have hB2 : Lib.IsBuilder 176 5 (w.heap.size + 1) (w.heap.size + 1) (Lib.byteCells ([45] : List UInt8)) W1.drew.drew := by
    rcases hB1 with h | h
    ·exact .inl h.drew
    ·exact .inr h.drew
   have hs2 : w.heap.size + 2 ≤ W1.drew.drew.heap.size := hs1
   have q1 : x + 1 ≤ (d.size : Int) := by omega
   have q2 : 0 ≤ x + 1 := by omega
   have q3 : IntKind.i64.wrap (x + 1) = x + 1 := by simp [IntKind.wrap, IntKind.bits, IntKind.signed]; omega
   go_region_with (go_at_call 122; refine (Tryz.ws (w.heap.size + 1) (w.heap.size + 1) _ _ _ hB2 (by simp) (by omega) (by omega)).mono ?_; rintro e W5 ⟨rfl, hB5, b5⟩)
   have s5 := b5.size
   have hw5 := hw1.drew.trans (b5.mono (by omega))
   go_wp2_with (fail)
   refine (Tryz.st (w.heap.size + 1) (w.heap.size + 1) _ _ hB5 (by omega)).mono ?_
   rintro e W9 ⟨rfl, b9⟩
   go_wp2_with (fail)
   go_ret
   exact ⟨congrArg (fun s => Ending.returned (Value.string s)) (ba_ext (by simp only [ba_app, List.append_assoc, List.nil_append, List.append_nil, List.singleton_append, List.cons_append, List.toList_toArray, if_true, Bool.false_eq_true, if_false, ByteArray.data_extract, Array.toList_extract, List.extract_eq_take_drop, List.drop_zero, Nat.sub_zero, List.drop_one])), hw5.trans (b9.mono (by omega))⟩
  ·rw [if_neg (by omega), if_neg (by omega), if_neg (by omega)] at hr
   obtain ⟨z, hz, hr⟩ := Option.bind_eq_some_iff.1 hr
   obtain rfl := Option.some.inj hr
   have hzs := hRs _ _ hz (by omega)
   refine (hRep _ z _ hz).mono ?_
   rintro e W2 ⟨rfl, b2⟩
   have s2 := b2.size
   have hB2 := builder_below hB1 b2
   have hw2 := hw1.trans (b2.mono (by omega))
   have hza : (d ++ z).size = d.size + z.size := by rw [ByteArray.size_append]
   go_wp2_with (fail)
   refine (Tryz.ws (w.heap.size + 1) (w.heap.size + 1) _ _ _ hB2 (by simp) (by omega) (by omega)).mono ?_
   rintro e W5 ⟨rfl, hB5, b5⟩
   have s5 := b5.size
   have hw5 := hw2.trans (b5.mono (by omega))
   go_wp2_with (fail)
   refine (Tryz.st (w.heap.size + 1) (w.heap.size + 1) _ _ hB5 (by omega)).mono ?_
   rintro e W9 ⟨rfl, b9⟩
   go_wp2_with (fail)
   go_ret
   exact ⟨congrArg (fun s => Ending.returned (Value.string s)) (ba_ext (by simp only [ba_app, List.append_assoc, List.nil_append, List.append_nil, List.singleton_append, List.cons_append, List.toList_toArray, if_true, Bool.false_eq_true, if_false, ByteArray.data_extract, Array.toList_extract, List.extract_eq_take_drop, List.drop_zero, Nat.sub_zero, List.drop_one])), hw5.trans (b9.mono (by omega))⟩
  ·rw [if_pos (by omega)] at hr
   split at hr
   case isFalse => cases hr
   rename_i hd1
   obtain ⟨it, hit, hr⟩ := Option.bind_eq_some_iff.1 hr
   split at hr
   case isFalse => cases hr
   rename_i hits
   obtain rfl := Option.some.inj hr
   refine (Tryz.ws (w.heap.size + 1) (w.heap.size + 1) ([45] : List UInt8) (d.extract 0 1) _ hB1 (by simp) (Nat.le_trans (hex 0 1) (by omega)) (by omega)).mono ?_
   rintro e W2 ⟨rfl, hB2, b2⟩
   have s2 := b2.size
   have hw2 := hw1.trans (b2.mono (by omega))
   have l2 : (([45] : List UInt8) ++ (d.extract 0 1).data.toList).length ≤ 1000001 := by
    have := hex 0 1
    have h1 : (d.extract 0 1).data.toList.length = (d.extract 0 1).size := by simp
    rw [List.length_append, h1]; simp; omega
   have hse : ((⟨#[101]⟩ : ByteArray) ++ it).size ≤ 2000000 := by rw [ByteArray.size_append]; have h1 : (⟨#[101]⟩ : ByteArray).size = 1 := rfl; omega
   have hsd : ((⟨#[46]⟩ : ByteArray) ++ d.extract 1 d.size).size ≤ 2000000 := by rw [ByteArray.size_append]; have := hex 1 d.size; have h1 : (⟨#[46]⟩ : ByteArray).size = 1 := rfl; omega
   have hx1' := hex 1 d.size
   have fin : ∀ (L3 : List UInt8) (W3 : World), w.heap.size + 2 ≤ W3.heap.size → L3.length ≤ 4000000 → Lib.IsBuilder 176 5 (w.heap.size + 1) (w.heap.size + 1) (Lib.byteCells L3) W3 → Below w.heap.size w W3 →
     Calls Tryz.prog 123 #[.int .i64 x] W3 (fun e w' => e = .returned (.string it) ∧ Lib.IsBuilder 176 5 (w.heap.size + 1) (w.heap.size + 1) (Lib.byteCells L3) w' ∧ Below w.heap.size w w' ∧ W3.heap.size ≤ w'.heap.size) := by
    intro L3 W3 h1 h2 h3 h4
    refine (hI it hit W3 h4).mono ?_
    rintro e w' ⟨h5, h6⟩
    exact ⟨h5, builder_below h3 h6, h4.trans (h6.mono (by omega)), h6.size⟩
   go_wp2_with (fail)
   ·rename_i hd2
    refine (Tryz.ws (w.heap.size + 1) (w.heap.size + 1) _ _ _ hB2 (by omega) (by omega) (by omega)).mono ?_
    rintro e W3 ⟨rfl, hB3, b3⟩
    have s3 := b3.size
    have hw3 := hw2.trans (b3.mono (by omega))
    have l3 : (([45] : List UInt8) ++ (d.extract 0 1).data.toList ++ ((⟨#[46]⟩ : ByteArray) ++ d.extract 1 d.size).data.toList).length ≤ 3500000 := by
     have h1 : ((⟨#[46]⟩ : ByteArray) ++ d.extract 1 d.size).data.toList.length = ((⟨#[46]⟩ : ByteArray) ++ d.extract 1 d.size).size := ba_len _
     rw [List.length_append, h1]; omega
    go_wp2_with (fail)
    refine (fin _ W3 (by omega) (by omega) hB3 hw3).mono ?_
    rintro e W4 ⟨rfl, hB4, hw4, s4⟩
    go_wp2_with (fail)
    refine (Tryz.ws (w.heap.size + 1) (w.heap.size + 1) _ _ _ hB4 (by omega) (by omega) (by omega)).mono ?_
    rintro e W5 ⟨rfl, hB5, b5⟩
    have s5 := b5.size
    have hw5 := hw4.trans (b5.mono (by omega))
    go_wp2_with (fail)
    have hd3 : d.size > 1 := by omega
    refine (Tryz.st (w.heap.size + 1) (w.heap.size + 1) _ _ hB5 (by omega)).mono ?_
    rintro e W9 ⟨rfl, b9⟩
    go_wp2_with (fail)
    go_ret
    exact ⟨congrArg (fun s => Ending.returned (Value.string s)) (ba_ext (by simp only [ba_app, List.append_assoc, if_pos hd3, List.nil_append, List.append_nil, List.singleton_append, List.cons_append, List.toList_toArray, if_true, Bool.false_eq_true, if_false, ByteArray.data_extract, Array.toList_extract, List.extract_eq_take_drop, List.drop_zero, Nat.sub_zero, List.drop_one])), hw5.trans (b9.mono (by omega))⟩
   ·rename_i hd2
    refine (fin _ W2 (by omega) (by omega) hB2 hw2).mono ?_
    rintro e W4 ⟨rfl, hB4, hw4, s4⟩
    go_wp2_with (fail)
    refine (Tryz.ws (w.heap.size + 1) (w.heap.size + 1) _ _ _ hB4 (by omega) (by omega) (by omega)).mono ?_
    rintro e W5 ⟨rfl, hB5, b5⟩
    have s5 := b5.size
    have hw5 := hw4.trans (b5.mono (by omega))
    go_wp2_with (fail)
    have hd3 : ¬ d.size > 1 := by omega
    refine (Tryz.st (w.heap.size + 1) (w.heap.size + 1) _ _ hB5 (by omega)).mono ?_
    rintro e W9 ⟨rfl, b9⟩
    go_wp2_with (fail)
    go_ret
    exact ⟨congrArg (fun s => Ending.returned (Value.string s)) (ba_ext (by simp only [ba_app, List.append_assoc, if_neg hd3, List.nil_append, List.append_nil, List.singleton_append, List.cons_append, List.toList_toArray, if_true, Bool.false_eq_true, if_false, ByteArray.data_extract, Array.toList_extract, List.extract_eq_take_drop, List.drop_zero, Nat.sub_zero, List.drop_one])), hw5.trans (b9.mono (by omega))⟩
  ·exfalso
   rw [if_pos (by omega)] at hr
   split at hr
   ·omega
   ·cases hr
end Go.Proofs
namespace Go.Proofs.YtnkpmjhlkmlmbaaGreatDoor.Eng
open Go.RowKit Go.Proofs
theorem zn4 {P : Program} {M0 : Mem} {f : Nat} {F : Fun} (ok : qJ P M0 f F) {w : World} (h0 : Ext M0 (qc0 w)) {args : Array Value} {ls : List V} {r : F.S.R}
  (hs : args.size = F.S.ps.length) (ha : ∀ (i : Nat) (v : Value), args[i]? = some v → RV (qc0 w) (fun _ => none) v (qh (Ent F.S ls).t i))
  (hr : app (qo F.S.ps) F.f ls = some r) :
  Calls P f args w fun e w' => ∃ v M' φ', e = .returned v ∧ RV M' φ' v (qaQ (qk (Ent F.S ls).nx F.S.rs (F.S.un r)).1) ∧ Below w.heap.size w w' := by
 have hrel : Rel (qc0 w) (fun _ => none) (qc (Ent F.S ls).O) w := by
  refine ⟨fun _ _ _ h => h, ?_, ?_, ?_⟩
  ·intro id p h; cases h
  ·intro id p h; cases h
  ·intro id id' p p' _ h; cases h
 refine (ok.call (qc0 w) (fun _ => none) w args ls r h0 ⟨hrel, hs, ha, fun _ _ => rfl⟩ hr).mono fun e w' h => ?_
 obtain ⟨v, he, _, M', φ', hrv, _, hst, _⟩ := h
 exact ⟨v, M', φ', he, hrv, hst.kept.os, hst.kept.tape, hst.kept.output, hst.kept.size, fun k hk => hst.kept.block k hk fun _ => qgG⟩
theorem zV.ok : ∀ k, qJ Tryz.prog zaz 65 (zV.F k) := fun k => by
 refine ⟨⟨Tryz.f65, qdB Tryz.f65, Tryz.func65, by kernel_rfl, by kernel_rfl⟩, rfl, rfl, fun M φ w args ls r hgl hc hr => ?_⟩
 have hlf : qd [.b, .s, .i .i64] ls = true := qao hr
 obtain ⟨neg, d, x, rfl⟩ : ∃ neg d x, ls = [.bool neg, .str d, .int .i64 x] := by
  match ls, hlf with
  | [a, b, c], h =>
   have h : qd [.b, .s, .i .i64] [a, b, c] = true := h
   simp only [qd, Bool.and_true, Bool.and_eq_true] at h
   obtain ⟨h1, h2, h3⟩ := h
   cases a <;> first | (cases h1; done) | skip
   cases b <;> first | (cases h2; done) | skip
   cases c <;> first | (cases h3; done) | skip
   rw [← qF h3]
   exact ⟨_, _, _, rfl⟩
  | [], h => cases h
  | [_], h => simp [qd] at h
  | [_, _], h => simp [qd] at h
  | _ :: _ :: _ :: _ :: _, h => simp [qd] at h
 have hr : zV.f k neg d x = some r := hr
 have hargs : args = #[.agg #[.bool neg, .string d, .int .i64 x]] := by
  have hs : args.size = 1 := hc.size
  have h0 : args[0]? = some (args[0]'(by omega)) := Array.getElem?_eq_getElem _
  obtain ⟨a, e, has, hg⟩ := (show RA M φ _ (.agg [.bool neg, .str d, .int .i64 x]) from hc.args 0 _ h0)
  obtain ⟨u0, g0, r0⟩ := hg 0 _ rfl
  obtain ⟨u1, g1, r1⟩ := hg 1 _ rfl
  obtain ⟨u2, g2, r2⟩ := hg 2 _ rfl
  have e0 : u0 = .bool neg := r0
  have e1 : u1 = .string d := r1
  have e2 : u2 = .int .i64 x := r2.1
  have ea : a = #[.bool neg, .string d, .int .i64 x] := by
   apply Array.ext_getElem?
   intro i
   match i with
   | 0 => rw [g0, e0]; rfl
   | 1 => rw [g1, e1]; rfl
   | 2 => rw [g2, e2]; rfl
   | i + 3 => rw [Array.getElem?_eq_none (by rw [has]; simp), Array.getElem?_eq_none (by simp)]
  apply Array.ext_getElem?
  intro i
  cases i with
  | zero => rw [h0, e, ea]; rfl
  | succ i => rw [Array.getElem?_eq_none (by omega), Array.getElem?_eq_none (by simp)]
 have hx : -1000000 ≤ x ∧ x ≤ 1000000 := by
  have h := hr
  unfold zV.f at h
  split at h
  ·rename_i hb; exact hb.2
  ·cases h
 have hcall := Tryz.plain_walk k neg d x r hr (by omega) (by omega) w fun it hit w1 hb1 => by
  refine (zn4 (zct.ok k) (w := w1) (args := #[.int .i64 x]) (ls := [.int .i64 x]) (r := it) ?_ rfl ?_ hit).mono ?_
  ·intro b o v hv
   have h1 := hc.rel.holds b o v (hgl b o v hv)
   show w1.cell? _ = _
   rw [hb1.cell (qa5 h1)]
   exact h1
  ·intro i v hv
   cases i with
   | zero =>
    obtain rfl := Option.some.inj hv
    exact ⟨rfl, qbO _⟩
   | succ i => simp at hv
  ·rintro e w' ⟨v, M', φ', he, hrv, hbl⟩
   have hv : v = .string it := hrv
   exact ⟨by rw [he, hv], hbl⟩
 rw [hargs]
 refine hcall.mono fun e w' ⟨he, hb⟩ => ⟨_, he, rfl, M, φ, rfl, ?_, ?_, qp.refl φ⟩
 all_goals
  have hg := qhV hb
  have hB : q9 (zV.F k).S (Ent (zV.F k).S [.bool neg, .str d, .int .i64 x]).nx r = fun _ => .gone := rfl
  have hB0 : qc (Ent (zV.F k).S [.bool neg, .str d, .int .i64 x]).O = fun _ => .gone := rfl
  rw [hB]
 ·have := hc.rel.grew hg
  rwa [hB0] at this
 ·rw [hB0]
  exact ⟨Ext.refl M, hg.kp _, fun _ _ h => .inl h, fun _ _ _ h => .inl h⟩
set_option maxRecDepth 100000
theorem zci.ok : Fo 64 (sg [.ag [.b, .s, .i .i64], .lf (.i .i64)] [.lf (.b)]) fun _ => zci.f := fo 13 Tryz.func64 .z
theorem zU.ok : Fo 18 (sg [.lf (.i .u8), .lf (.i .u64)] [.lf (.s), .lf (.i .i64)]) zU.f := fo 85 Tryz.func18 (.o zaE.ok (.o zaS.ok (.o zeo.ok (.o zcG.ok (.o zaT.ok (.o zcH.ok (.o zci.ok (.o zV.ok .z)))))))) [[tt, tt, tt, tt, ff, tt, ff], [tt, ff, tt, tt], [tt, tt, tt, tt, ff, tt, ff, ff, tt, ff, ff, tt, tt, ff, tt], [tt, tt, tt, tt, ff, tt, ff, ff, tt, ff, ff, tt, tt, tt]] (fun k => [⟨[(9, .bx [.b, .s, .i .i64]), (10, .cl 59 [[.i .u8], [.i .u64]]), (11, .lf (.i .i64))], zU.l0 k⟩, ⟨[(2, .ip [.i .u8]), (3, .ip [.i .u64]), (6, .lf (.s)), (8, .lf (.i .i64)), (28, .lf (.b))], zU.j0 k⟩, ⟨[(9, .bx [.b, .s, .i .i64]), (10, .cl 59 [[.i .u8], [.i .u64]]), (11, .lf (.i .i64)), (12, .bx [.b, .s, .i .i64]), (13, .bx [.b, .s, .i .i64]), (14, .lf (.b)), (15, .lf (.b)), (57, .lf (.b))], zU.j3 k⟩, ⟨[(9, .bx [.b, .s, .i .i64]), (10, .cl 59 [[.i .u8], [.i .u64]]), (11, .lf (.i .i64)), (12, .bx [.b, .s, .i .i64]), (13, .bx [.b, .s, .i .i64]), (14, .lf (.b)), (15, .lf (.b))], zU.j5 k⟩]) (frz := [2, 3])
theorem ze4.ok : Fo 97 (sg [.ag [.i .i64, .i .i64, .i .u64]] [.lf (.i .u64)]) fun _ => ze4.f := fo 10 Tryz.func97 (.o zbp.ok .z)
theorem ze2.ok : Fo 96 (sg [.lf (.i .u8), .lf (.b), .lf (.fn 97)] [.lf (.i .u64), .lf (.i .i64)]) ze2.f := fo 28 Tryz.func96 (.o ze4.ok (.o zG.ok .z))
theorem zd8.ok : Fo 42 (sg [.lf (.i .u8)] [.lf (.i .u64), .lf (.i .i64)]) zd8.f := fo 8 Tryz.func42 (.o ze2.ok .z)
theorem zcX.ok : Fo 98 (sg [.lf (.s), .lf (.i .u8)] [.lf (.i .i64)]) fun _ => zcX.f := fo 8 Tryz.func98 (.o zbG.ok .z)
theorem zZ.ok : Fo 43 (sg [.bb [.s, .i .i64], .lf (.s)] [.lf (.i .u8), .lf (.b)]) zZ.f := fo 47 Tryz.func43 (.o zcX.ok .z) [[tt, ff, tt]] fun k => [⟨[(0, .bb [.s, .i .i64]), (29, .lf (.b))], zZ.j0 k⟩]
theorem zaU.ok : Fo 100 (sg [.bb [.s, .i .i64]] [.lf (.s)]) zaU.f := fo 59 Tryz.func100 .z [[tt, tt, ff, ff]] fun k => [⟨[(0, .bb [.s, .i .i64]), (3, .lf (.i .i64))], zaU.l0 k⟩]
theorem zM.ok : Fo 45 (sg [.bb [.s, .i .i64]] [.lf (.s), .lf (.i .i64), .lf (.b)]) zM.f := fo 81 Tryz.func45 (.o zZ.ok (.o zaU.ok (.o zbk.ok .z))) [[tt, tt, tt, tt], [tt, tt, tt, tt, tt]] fun k => [⟨[(0, .bb [.s, .i .i64]), (5, .lf (.s)), (6, .lf (.i .i64))], zM.j2 k⟩, ⟨[(0, .bb [.s, .i .i64]), (5, .lf (.s)), (6, .lf (.i .i64))], zM.j6 k⟩]
theorem zby.ok : Fo 102 (sg [.lf (.s), .lf (.i .u8)] [.lf (.s)]) zby.f := fo 17 Tryz.func102 .z [[tt, ff, ff]] fun k => [⟨[(0, .lf (.s)), (1, .lf (.i .u8))], zby.l0 k⟩]
theorem zbK.ok : Fo 46 (sg [.lf (.s), .lf (.s)] [.lf (.s)]) zbK.f := fo 37 Tryz.func46 (.o zby.ok .z) [[tt, tt, ff, tt]] fun k => [⟨[(0, .lf (.s)), (1, .lf (.s)), (21, .lf (.b))], zbK.j2 k⟩]
theorem zbV.ok : Fo 14 (sg [.lf (.i .u8), .lf (.i .u8), .lf (.s)] [.lf (.i .u64), .lf (.i .u8), .lf (.i .i64)]) zbV.f := fo 103 Tryz.func14 (.o zad.ok (.o zd8.ok (.o zZ.ok (.o zc0.ok (.o zM.ok (.o zbK.ok (.o zc1.ok (.o zo.ok (.o zcI.ok .z)))))))))
theorem zbd.ok : Fo 16 (sg [] [.lf (.b)]) zbd.f := fo 33 Tryz.func16 (.o zbV.ok (.o zU.ok .z))
theorem zN.ok : Fo 30 (sg [.lf (.i .u8), .lf (.i .u8), .lf (.i .u64), .lf (.i .i64)] [.lf (.s), .lf (.i .i64)]) zN.f := fo 97 Tryz.func30 (.o zad.ok (.o zaE.ok (.o zaS.ok (.o zcG.ok (.o zaT.ok (.o zcH.ok (.o zci.ok (.o zV.ok .z)))))))) [[tt, tt, tt, ff, ff, tt, tt, tt], [tt, tt, tt, tt, tt, tt, tt, tt]] fun k => [⟨[(0, .lf (.i .u8)), (1, .lf (.i .u8)), (2, .lf (.i .u64)), (3, .lf (.i .i64)), (12, .lf (.s)), (13, .lf (.b)), (38, .lf (.b))], zN.j1 k⟩, ⟨[(3, .lf (.i .i64)), (15, .bx [.b, .s, .i .i64]), (16, .lf (.b))], zN.j4 k⟩]
theorem zaj.ok : Fo 27 (sg [.lf (.i .u8), .lf (.i .u64)] [.lf (.s), .lf (.i .i64)]) zaj.f := fo 45 Tryz.func27 (.o zaE.ok (.o za7.ok .z)) [[tt, ff, tt, tt], [tt, tt, tt, tt, tt]] fun k => [⟨[(0, .lf (.i .u8)), (1, .lf (.i .u64)), (6, .lf (.s)), (8, .lf (.i .i64)), (24, .lf (.b))], zaj.j0 k⟩, ⟨[(9, .lf (.b)), (12, .lf (.s))], zaj.j2 k⟩]
theorem zab.ok : Fo 22 (sg [.lf (.s)] [.lf (.i .i64)]) zab.f := fo 43 Tryz.func22 .z [[tt, tt, ff, tt, ff]] fun k => [⟨[(0, .lf (.s)), (3, .lf (.i .i64)), (4, .lf (.i .i64)), (5, .lf (.i .i64)), (6, .lf (.i .i64))], zab.l0 k⟩]
theorem zdQ.ok : Fo 112 (sg [.lf (.i .u8), .ag [.b, .i .i64, .i .u64]] [.lf (.i .u64)]) fun _ => zdQ.f := fo 22 Tryz.func112 (.o zbU.ok (.o zcE.ok .z))
theorem zch.ok : Fo 54 (sg [.lf (.i .u8), .lf (.b)] [.lf (.i .u64)]) fun _ => zch.f := fo 11 Tryz.func54 (.o zcD.ok (.o zdQ.ok .z))
theorem zH.ok : Fo 132 (sg [.ow .u32] [.ow .u32]) zH.f := fo 21 Tryz.func132 .z [[tt, tt, ff, ff]] fun k => [⟨[(0, .ow .u32), (3, .lf (.i .i64))], zH.l0 k⟩]
theorem zH.ok1 : Fo 132 (sg [.lf (.is .u32)] [.lf (.is .u32)]) zH.f := fo 21 Tryz.func132 .z [[tt, tt, ff, ff]] fun k => [⟨[(0, .lf (.is .u32)), (3, .lf (.i .i64))], zH.l0 k⟩]
theorem zdd.ok : Fo 126 (sg [.lf (.i .u64)] [.lf (.is .u32)]) zdd.f := fo 10 Tryz.func126 (.t zH.ok zH.ok1 .z)
theorem zdR.ok : Fo 127 (sg [.lf (.i .u8)] [.lf (.i .i64)]) fun _ => zdR.f := fo 5 Tryz.func127 .z
theorem zdL.ok : Fo 73 (sg [.lf (.is .u32), .lf (.i .i64)] [.lf (.i .u32)]) fun _ => zdL.f := fo 23 Tryz.func73 .z
theorem zaR.ok : Fo 138 (sg [.lf (.is .u32)] [.lf (.i .i64)]) zaR.f := fo 31 Tryz.func138 (.o zdL.ok .z) [[tt, tt, ff, ff]] fun k => [⟨[(0, .lf (.is .u32)), (3, .lf (.i .i64))], zaR.l0 k⟩]
theorem za5.ok : Fo 142 (sg [.lf (.is .u32)] [.lf (.i .i64)]) za5.f := fo 25 Tryz.func142 .z [[tt, tt, tt, ff, tt, ff]] fun k => [⟨[(3, .lf (.i .i64)), (4, .lf (.i .u32))], za5.l0 k⟩]
theorem za4.ok : Fo 139 (sg [.lf (.is .u32), .lf (.i .i64)] [.lf (.is .u32), .lf (.b)]) za4.f := fo 63 Tryz.func139 (.t zH.ok zH.ok1 (.o zaR.ok (.o za5.ok .z))) [[tt, tt, tt, tt, tt, ff, tt, ff]] fun k => [⟨[(0, .lf (.is .u32)), (6, .lf (.b)), (7, .ow .u32), (8, .lf (.i .i64)), (9, .lf (.i .i64))], za4.l0 k⟩]
theorem zbC.ok : Fo 79 (sg [.lf (.b), .lf (.is .u32), .lf (.i .i64)] [.ag [.b, .is .u32, .i .i64]]) zbC.f := fo 28 Tryz.func79 (.o zaR.ok (.o za4.ok .z))
theorem zdf.ok : Fo 67 (sg [.lf (.i .u8), .lf (.i .u64)] [.ag [.b, .is .u32, .i .i64]]) zdf.f := fo 36 Tryz.func67 (.o zcF.ok (.o zbC.ok (.o zbU.ok (.o zdd.ok (.o zdR.ok .z)))))
theorem zcA.ok : Fo 82 (sg [.ag [.b, .is .u32, .i .i64]] [.lf (.i .i64)]) fun _ => zcA.f := fo 9 Tryz.func82 .z
theorem zcg.ok : Fo 83 (sg [.ag [.b, .is .u32, .i .i64]] [.lf (.i .i64)]) zcg.f := fo 13 Tryz.func83 (.o za5.ok .z)
theorem zdM.ok : Fo 144 (sg [.ag [.b, .is .u32, .i .i64]] [.ag [.b, .is .u32, .i .i64]]) fun _ => zdM.f := fo 12 Tryz.func144 .z
theorem za6.ok : Fo 130 (sg [.lf (.is .u32), .lf (.i .i64)] [.lf (.is .u32)]) za6.f := fo 45 Tryz.func130 (.t zH.ok zH.ok1 .z) [[tt, tt, tt, tt, tt, ff, tt, ff]] fun k => [⟨[(0, .lf (.is .u32)), (5, .ow .u32), (6, .lf (.i .i64)), (7, .lf (.i .u64)), (8, .lf (.i .i64))], za6.l0 k⟩]
theorem zE.ok : Fo 71 (sg [.lf (.is .u32), .lf (.is .u32)] [.lf (.is .u32)]) zE.f := fo 55 Tryz.func71 (.t zH.ok zH.ok1 .z) [[tt, tt, tt, ff, tt, ff], [tt, tt, tt, ff, tt, ff, ff, tt, ff, ff, tt], [tt, tt, tt, ff, tt, ff, ff, tt, ff, ff, tt, tt]] fun k => [⟨[(0, .lf (.is .u32)), (1, .lf (.is .u32)), (5, .ow .u32), (6, .lf (.i .u64)), (7, .lf (.i .i64))], zE.l0 k⟩, ⟨[(0, .lf (.is .u32)), (1, .lf (.is .u32)), (5, .ow .u32), (6, .lf (.i .u64)), (7, .lf (.i .i64))], zE.j2 k⟩, ⟨[(0, .lf (.is .u32)), (1, .lf (.is .u32)), (5, .ow .u32), (6, .lf (.i .u64)), (7, .lf (.i .i64))], zE.j3 k⟩]
theorem zbe.ok : Fo 194 (sg [.lf (.is .u32), .lf (.is .u32)] [.lf (.i .i64)]) zbe.f := fo 41 Tryz.func194 .z [[tt, tt, ff, tt, ff]] fun k => [⟨[(0, .lf (.is .u32)), (1, .lf (.is .u32)), (5, .lf (.i .i64))], zbe.l0 k⟩]
theorem zF.ok : Fo 195 (sg [.lf (.is .u32), .lf (.is .u32)] [.lf (.is .u32)]) zF.f := fo 47 Tryz.func195 (.t zH.ok zH.ok1 .z) [[tt, tt, tt, ff, tt, ff], [tt, tt, tt, ff, tt, ff, ff, tt, ff, ff, tt, tt], [tt, tt, tt, ff, tt, ff, ff, tt, ff, ff, tt, tt, tt, tt, tt]] fun k => [⟨[(0, .lf (.is .u32)), (1, .lf (.is .u32)), (5, .ow .u32), (6, .lf (.i .u64)), (7, .lf (.i .i64))], zF.l0 k⟩, ⟨[(0, .lf (.is .u32)), (1, .lf (.is .u32)), (5, .ow .u32), (7, .lf (.i .i64)), (8, .lf (.i .u64))], zF.j1 k⟩, ⟨[(0, .lf (.is .u32)), (1, .lf (.is .u32)), (5, .ow .u32), (6, .lf (.i .u64)), (7, .lf (.i .i64)), (8, .lf (.i .u64)), (9, .lf (.i .u64))], zF.j2 k⟩]
theorem zbs.ok : Fo 143 (sg [.ag [.b, .is .u32, .i .i64], .ag [.b, .is .u32, .i .i64]] [.ag [.b, .is .u32, .i .i64]]) zbs.f := fo 70 Tryz.func143 (.o zE.ok (.o zbC.ok (.o za6.ok (.o zbe.ok (.o zF.ok .z))))) [[tt, tt, tt, tt, tt]] fun k => [⟨[(2, .bx [.b, .is .u32, .i .i64]), (3, .bx [.b, .is .u32, .i .i64]), (4, .bx [.b, .is .u32, .i .i64]), (5, .lf (.i .i64))], zbs.j2 k⟩]
theorem zdN.ok : Fo 84 (sg [.ag [.b, .is .u32, .i .i64], .ag [.b, .is .u32, .i .i64]] [.ag [.b, .is .u32, .i .i64]]) zdN.f := fo 9 Tryz.func84 (.o zbs.ok (.o zdM.ok .z))
theorem zde.ok : Fo 25 (sg [.ag [.b, .is .u32, .i .i64], .ag [.b, .is .u32, .i .i64]] [.lf (.i .i64)]) zde.f := fo 36 Tryz.func25 (.o zcA.ok (.o zcg.ok (.o zdN.ok .z)))
theorem zdc.ok : Fo 26 (sg [.lf (.i .u8), .lf (.i .u64), .lf (.i .u64)] [.lf (.b)]) zdc.f := fo 40 Tryz.func26 (.o zde.ok (.o zch.ok (.o zdf.ok .z)))
theorem zem.ok : Fo 10 (sg [.lf (.i .u8), .lf (.i .u64), .lf (.i .i64)] [.lf (.b)]) zem.f := fo 135 Tryz.func10 (.o zbV.ok (.o za3.ok (.o zbd.ok (.o zdO.ok (.o zcB.ok (.o zab.ok (.o zdc.ok (.o zaj.ok (.o zN.ok .z)))))))))
end Go.Proofs.YtnkpmjhlkmlmbaaGreatDoor.Eng
