import Derived.Test.YtnkpmjhlkmlmbaaGreatDoorQCtextBackF1
import Derived.Tactics
import Derived.BigQuiet
import Derived.WalkKit
import Derived.OwnWalk
import Derived.Lib.TrailingZeros
import Derived.Shelf.Lay
import Derived.Ground.NamesProg
import Derived.Shelf.Strings.Repeat
import Derived.Shelf.Small.Strs
import Derived.Shelf.Spec.TrailingZeros
import Derived.Shelf.Lays7
import Derived.Shelf.Strings.Search1
import Derived.Shelf.Strconv.Atoi
import Derived.Lib.AtoiErrMem
import Derived.Shelf.Strings.Builder1
import Derived.BigCall
import Derived.BigRegion
import Derived.RegionCalls
set_option linter.unusedVariables false
set_option linter.unusedSimpArgs false
namespace Go.Proofs.YtnkpmjhlkmlmbaaGreatDoor.Eng
open Go.RowKit Go.Proofs Go
set_option maxRecDepth 100000
def zhj (w : World) : Prop := ∀ j, j < 32 → w.cell? ⟨5, j, none⟩ = some (.int .u8 (Lib.deBruijn32tab.getD j 0))
theorem zo4 (x k idx : Nat) (w : World) (hx0 : ((x : Int) == 0) = false)
  (key : bits BinOp.and IntKind.u32 (x : Int) (-(x : Int) % 4294967296) * 125613361 % 4294967296 / 134217728 = (idx : Int))
  (hi : idx < 32) (hk : k < 32) (hcell : w.cell? ⟨5, idx, none⟩ = some (.int .u8 k)) :
  Calls Tryz.prog 218 #[.int .u32 x] w fun e w' => e = .returned (.int .i64 k) ∧ w' = w := by
 go_enter Tryz.func218, Tryz.ntmps218
 go_wp2_with (simp only [key])
 go_ret
 exact ⟨rfl, rfl⟩
theorem zo7 (w : World) : Calls Tryz.prog 218 #[.int .u32 0] w fun e w' => e = .returned (.int .i64 32) ∧ w' = w := by
 go_enter Tryz.func218, Tryz.ntmps218
 go_wp2
 go_ret
 exact ⟨rfl, rfl⟩
theorem zk1 (a b : Nat) (ha : a < 4294967296) (hb : b < 4294967296) : bits .and .u32 (a : Int) (b : Int) = ((a &&& b : Nat) : Int) := by
 have hx : a &&& b < 2 ^ 32 := Nat.and_lt_two_pow _ (by omega)
 have h1 : (BitVec.ofInt 32 (a : Int)).toNat = a := by
  rw [BitVec.ofInt_natCast, BitVec.toNat_ofNat]; exact Nat.mod_eq_of_lt (by omega)
 have h2 : (BitVec.ofInt 32 (b : Int)).toNat = b := by
  rw [BitVec.ofInt_natCast, BitVec.toNat_ofNat]; exact Nat.mod_eq_of_lt (by omega)
 show IntKind.u32.wrap ((BitVec.ofInt 32 (a : Int) &&& BitVec.ofInt 32 (b : Int)).toNat : Int) = _
 have h3 : ∀ n : Int, IntKind.u32.wrap n = n % 4294967296 := fun n => by simp [IntKind.wrap, IntKind.signed, IntKind.bits]
 rw [BitVec.toNat_and, h1, h2, h3]
 omega
theorem zo6 (x a : Nat) (hx : x < 4294967296) (hx0 : x ≠ 0) (hlow : x &&& (4294967296 - x) = a) :
  bits BinOp.and IntKind.u32 (x : Int) (-(x : Int) % 4294967296) * 125613361 % 4294967296 / 134217728 = ((a * 125613361 % 4294967296 / 134217728 : Nat) : Int) := by
 have e1 : -(x : Int) % 4294967296 = ((4294967296 - x : Nat) : Int) := by omega
 rw [e1, zk1 x _ hx (by omega), hlow]
 omega
theorem zo3 (a0 r : Int) (w : World) (hT : zhj w) (h : zaS.f a0 = some r) :
  Calls Tryz.prog 218 #[.int .u32 a0] w fun e w' => e = .returned (.int .i64 r) ∧ w' = w := by
 unfold zaS.f at h
 split at h
 case isFalse => cases h
 rename_i hx
 obtain ⟨x, rfl⟩ := Int.eq_ofNat_of_zero_le hx.1
 obtain rfl := Option.some.inj h
 rw [Int.toNat_natCast]
 by_cases hx0 : x = 0
 ·subst hx0
  exact zo7 w
 ·obtain ⟨hlow, hk⟩ := Lib.lowest_bit 32 x hx0 (by omega)
  obtain ⟨hi, htab⟩ := Lib.deBruijn32_at _ hk
  have hcell := hT _ hi
  rw [htab] at hcell
  exact zo4 x _ _ w (by simp; omega) (zo6 x _ (by omega) hx0 hlow) hi hk hcell
theorem zaS.ok : ∀ k, qJ Tryz.prog zax 218 (zaS.F k) := by
 intro k
 refine ⟨⟨Tryz.f218, qdF Tryz.f218, Tryz.func218, by kernel_rfl, by kernel_rfl⟩, rfl, rfl, fun M φ w args ls r hgl hc hr => ?_⟩
 have hlf := qap hr
 obtain ⟨x, rfl⟩ : ∃ x, ls = [.int .u32 x] := by
  clear hc hr
  obtain ⟨y, rfl⟩ := List.length_eq_one_iff.1 (qaq hlf).1
  simp only [zaS.F, qo, qD, qe, qA, Bool.and_true, List.append_nil] at hlf
  cases y <;> first | (cases hlf; done) | exact ⟨_, by rw [← qB hlf]⟩
 have hr : zaS.f x = some r := hr
 have ha : args = #[.int .u32 x] := by
  have hs := hc.size
  have hs : args.size = 1 := hs
  have h1 := (hc.args 0 args[0] (by simp [hs])).1
  apply Array.ext
  ·simp [hs]
  ·intro i h1' h2'
   have : i = 0 := by simp at h2'; omega
   subst this
   exact h1
 have hT : zhj w := fun j hj => hc.rel.holds 5 j _ (hgl 5 j _ (by unfold zax; rw [if_pos ⟨rfl, hj⟩]))
 subst ha
 refine (zo3 x r w hT hr).mono fun e w' h => ⟨_, h.1, rfl, M, φ, ⟨rfl, qbO _⟩, ?_, ?_, qp.refl φ⟩
 ·rw [h.2]; exact hc.rel
 ·rw [h.2]; exact Stp.refl M φ _ w
end Go.Proofs.YtnkpmjhlkmlmbaaGreatDoor.Eng
namespace Go.Proofs
open Go.Shelf
shelf_lay Lays.n105 Nm 105 at Tryz as Tryz.layRepeat
theorem Tryz.extraRepeat : Builder.Extra Tryz.prog Tryz.layRepeat_ren where
 sizeBuilder := by kernel_rfl
 liesBuilder := by kernel_rfl
 t5 := Tryz.layRepeat.t5
 a5 := Tryz.layRepeat.a5
 z5 := Tryz.layRepeat.z5
 v5 := Tryz.layRepeat.v5
 infoByte := by kernel_rfl
 cellsByte := by kernel_rfl
 sizeByte := by kernel_rfl
 neB5 := by decide
shelf_lay Lays.n106 Nm 106 at Tryz as Tryz.layCompare
shelf_lay Lays7.n27 Nm7 27 at Tryz as Tryz.layTz
shelf_lay Lays.n217 Nm 217 at Tryz as Tryz.layIndexByte
shelf_lay Lays.n172 Nm 172 at Tryz as Tryz.layAtoi
end Go.Proofs
namespace Go.Proofs.YtnkpmjhlkmlmbaaGreatDoor.Eng
open Go.RowKit Go.Proofs
set_option maxRecDepth 100000
theorem znv (s : ByteArray) : qea [.str s] := fun k n hm => by cases List.mem_singleton.1 hm
theorem zgr (n : Int) : qea [.int .i64 n] := fun k m hm => by cases List.mem_singleton.1 hm; exact qbO _
theorem zmQ {ls : List V} (h : qe [.s, .i .i64] ls = true) : ∃ s c, ls = [.str s, .int .i64 c] := by
 match ls, h with
 | [a, b], h =>
  simp only [qe, Bool.and_true, Bool.and_eq_true] at h
  obtain ⟨h1, h2⟩ := h
  cases a <;> first | (cases h1; done) | skip
  cases b <;> first | (cases h2; done) | skip
  rw [← qB h2]
  exact ⟨_, _, rfl⟩
 | [_], h => simp [qe] at h
 | [], h => cases h
 | _ :: _ :: _ :: _, h => simp [qe] at h
theorem zmS {ls : List V} (h : qe [.s, .i .u8] ls = true) : ∃ s c, ls = [.str s, .int .u8 c] := by
 match ls, h with
 | [a, b], h =>
  simp only [qe, Bool.and_true, Bool.and_eq_true] at h
  obtain ⟨h1, h2⟩ := h
  cases a <;> first | (cases h1; done) | skip
  cases b <;> first | (cases h2; done) | skip
  rw [← qB h2]
  exact ⟨_, _, rfl⟩
 | [_], h => simp [qe] at h
 | [], h => cases h
 | _ :: _ :: _ :: _, h => simp [qe] at h
theorem zmT {k : IntKind} {ls : List V} (h : qe [.i k] ls = true) : ∃ c, ls = [.int k c] := by
 match ls, h with
 | [a], h =>
  simp only [qe, Bool.and_true] at h
  cases a <;> first | (cases h; done) | skip
  rw [← qB h]
  exact ⟨_, rfl⟩
 | [], h => cases h
 | _ :: _ :: _, h => simp [qe] at h
theorem zmR {ls : List V} (h : qe [.s, .s] ls = true) : ∃ s c, ls = [.str s, .str c] := by
 match ls, h with
 | [a, b], h =>
  simp only [qe, Bool.and_true, Bool.and_eq_true] at h
  obtain ⟨h1, h2⟩ := h
  cases a <;> first | (cases h1; done) | skip
  cases b <;> first | (cases h2; done) | skip
  exact ⟨_, _, rfl⟩
 | [_], h => simp [qe] at h
 | [], h => cases h
 | _ :: _ :: _ :: _, h => simp [qe] at h
theorem zmP {ls : List V} (h : qe [.s] ls = true) : ∃ s, ls = [.str s] := by
 match ls, h with
 | [a], h =>
  simp only [qe, Bool.and_true] at h
  cases a <;> first | (cases h; done) | skip
  exact ⟨_, rfl⟩
 | [], h => cases h
 | _ :: _ :: _, h => simp [qe] at h
theorem zao.ok : ∀ k, qJ Tryz.prog zax 124 (zao.F k) := fun k => qJ.lib ⟨Tryz.f124, qdF Tryz.f124, Tryz.func124, by kernel_rfl, by kernel_rfl⟩ rfl rfl rfl (fun r => rfl) fun w ls r hw hlf hok hr => by
 obtain ⟨s, c, rfl⟩ := zmQ hlf
 have hr : zao.f s c = some r := hr
 unfold zao.f at hr
 split at hr
 case isFalse => cases hr
 rename_i h
 obtain rfl := Option.some.inj hr
 refine ⟨znv _, ?_⟩
 have := Any.strings_Repeat Tryz.layRepeat Tryz.extraRepeat s c.toNat w (by omega) h.2.1
 rw [Int.toNat_of_nonneg h.1] at this
 exact this.mono fun e w' ⟨he, hb⟩ => ⟨he, qh4 hb⟩
theorem zbX.ok : ∀ k, qJ Tryz.prog zax 120 (zbX.F k) := fun k => qJ.lib ⟨Tryz.f120, qdF Tryz.f120, Tryz.func120, by kernel_rfl, by kernel_rfl⟩ rfl rfl rfl (fun r => rfl) fun w ls r hw hlf hok hr => by
 obtain ⟨s, c, rfl⟩ := zmR hlf
 have hr : zbX.f s c = some r := hr
 obtain rfl := Option.some.inj hr
 refine ⟨zgr _, ?_⟩
 exact (Any.strings_Compare Tryz.layCompare s c w).mono fun e w' ⟨he, hb⟩ => ⟨he, hb ▸ qr.refl w⟩
theorem zbL.ok : ∀ k, qJ Tryz.prog zax 272 (zbL.F k) := fun k => qJ.lib ⟨Tryz.f272, qdF Tryz.f272, Tryz.func272, by kernel_rfl, by kernel_rfl⟩ rfl rfl rfl (fun r => rfl) fun w ls r hw hlf hok hr => by
 obtain ⟨c, rfl⟩ := zmT hlf
 have hr : zbL.f c = some r := hr
 unfold zbL.f at hr
 split at hr
 case isFalse => cases hr
 rename_i h
 obtain rfl := Option.some.inj hr
 obtain ⟨x, rfl⟩ := Int.eq_ofNat_of_zero_le h.1
 refine ⟨zgr _, ?_⟩
 refine (Any7.bits_TrailingZeros Tryz.layTz x (by omega) w fun _ => ?_).mono fun e w' ⟨he, hb⟩ => ⟨he, hb ▸ qr.refl w⟩
 intro j hj
 have hl : Lib.deBruijn64tab.length = 64 := rfl
 rw [Int.toNat_natCast] at *
 exact hw 8 j _ (by unfold zax; repeat (first | rw [if_pos ⟨rfl, by omega⟩] | rw [if_neg (by omega)]))
theorem zbD.ok : ∀ k, qJ Tryz.prog zax 158 (zbD.F k) := fun k => qJ.lib ⟨Tryz.f158, qdF Tryz.f158, Tryz.func158, by kernel_rfl, by kernel_rfl⟩ rfl rfl rfl (fun r => rfl) fun w ls r hw hlf hok hr => by
 obtain ⟨s, c, rfl⟩ := zmS hlf
 have hr : zbD.f s c = some r := hr
 obtain rfl := Option.some.inj hr
 refine ⟨zgr _, ?_⟩
 exact (Any.stringslite_IndexByte Tryz.layIndexByte s c w).mono fun e w' ⟨he, hb⟩ => ⟨he, hb ▸ qr.refl w⟩
theorem zbb.ok : ∀ k, qJ Tryz.prog zax 101 (zbb.F k) := fun k => qJ.lib ⟨Tryz.f101, qdF Tryz.f101, Tryz.func101, by kernel_rfl, by kernel_rfl⟩ rfl rfl rfl (fun r => rfl) fun w ls r hw hlf hok hr => by
 obtain ⟨s, rfl⟩ := zmP hlf
 have hr : zbb.f s = some r := hr
 unfold zbb.f at hr
 split at hr
 case isFalse => cases hr
 rename_i h
 have hi : qea ((zbb.F 0).S.un r) := by
  intro k n hm
  rcases List.mem_cons.1 hm with hm | hm
  ·cases hm; exact qbO _
  ·cases List.mem_singleton.1 hm
 refine ⟨hi, ?_⟩
 exact (Any.strconv_Atoi Tryz.layAtoi s r h hr w).mono fun e w' ⟨he, hb⟩ => ⟨he, by obtain ⟨t, rfl⟩ := hb; exact qh4 (Lib.bytesWorld_below w _ t)⟩
theorem zkI : TOk Tryz.prog TT := qia (by kernel_rfl)
theorem zmi : Tryz.prog.follows .mixedOrders = true := by kernel_rfl
abbrev Fo (n : Nat) (S : Sig) (f : Nat → Fn (qo S.ps) (Option S.R)) : Prop := ∀ k, qJ Tryz.prog zax n ⟨S, f k⟩
theorem fo {n : Nat} {ps rs : List Kx} {f : Nat → Fn (qo ps) (Option (sg ps rs).R)} {G : Nat → List (Nat × List Fun)} {fn : Func}
  (nt : Nat) (hf : Tryz.prog.funcs[n]? = some fn) (gs : GP Tryz.prog zax G) (ds : List (List Bool) := []) (H : Nat → List (qaA (sg ps rs).R) := fun _ => []) (frz : List Nat := [])
  (hname : (fn.name == "runtime.NumGoroutine") = false := by kernel_rfl) (hbody : fn.body = some (qdF fn) := by kernel_rfl) (hnt : nt = fn.ntmps := by kernel_rfl) (hr : rs.all qah = true := by kernel_rfl)
  (hck : qb6 (qaO (sg ps rs)) (zc ds (H 0)) = true := by kernel_rfl)
  (h0 : qbV (H 0) := by ((repeat (refine ⟨by ((repeat (intro _)); show _ = _; kernel_rfl), ?_⟩)); trivial))
  (hs : ∀ k, qb2 (mkC TT zax G nt (zc ds (H 0)) frz k) (sg ps rs) (qdF fn) fn.results.toList (qaL (H k)) (zc ds (H 0)) (H (k + 1)) := by (intro k; (repeat (refine ⟨rfl, by ((repeat (intro _)); show _ = _; kernel_rfl), ?_⟩)); trivial))
  (he : ∀ k, qW (qo ps) (fun ls y => qen (mkC TT zax G nt (zc ds (H 0)) frz k) (sg ps rs) (qdF fn) fn.results.toList (qaL (H k)) ls = y) (f k) := by ((repeat (intro _)); show _ = _; kernel_rfl)) : Fo n (sg ps rs) f :=
 qJ.mk' zkI zmi nt hf gs ds H frz hname hbody hnt hr hck h0 hs he
theorem zco.ok : Fo 50 (sg [.lf (.i .u8)] [.lf (.b)]) fun _ => zco.f := fo 9 Tryz.func50 .z
theorem zcR.ok : Fo 52 (sg [.lf (.i .u8), .lf (.i .u64)] [.lf (.i .i64)]) fun _ => zcR.f := fo 14 Tryz.func52 (.o zco.ok .z)
theorem zaD.ok : Fo 33 (sg [.lf (.i .u8), .lf (.rw [.i .u64, .i .u64])] [.lf (.i .i64)]) zaD.f := fo 33 Tryz.func33 (.o zco.ok (.o zcR.ok .z)) [[tt, tt, ff, tt, ff]] fun k => [⟨[(0, .lf (.i .u8)), (1, .lf (.rw [.i .u64, .i .u64])), (5, .lf (.i .i64))], zaD.l0 k⟩]
theorem zeJ.ok : Fo 209 (sg [.lf (.i .u8)] [.ag [.i .i64, .i .i64, .i .u64], .lf (.b)]) fun _ => zeJ.f := fo 12 Tryz.func209 .z
theorem zC.ok : Fo 157 (sg [.lf (.i .u8), .lf (.is .u64)] [.ag [.i .i64, .i .i64, .i .u64], .lf (.i .i64)]) zC.f := fo 35 Tryz.func157 (.o zeJ.ok .z) [[tt, tt, tt, ff, tt, ff]] fun k => [⟨[(4, .bx [.i .i64, .i .i64, .i .u64]), (6, .bx [.i .i64, .i .i64, .i .u64]), (18, .lf (.is .u64)), (19, .lf (.i .i64)), (20, .lf (.i .i64))], zC.l0 k⟩]
theorem zc7.ok : Fo 149 (sg [.lf (.i .u8), .lf (.i .u64)] [.lf (.i .i64)]) zc7.f := fo 15 Tryz.func149 (.o zC.ok .z)
theorem zdv.ok : Fo 87 (sg [.lf (.i .u8), .ag [.i .u64, .i .u64]] [.lf (.i .i64)]) zdv.f := fo 17 Tryz.func87 (.o zc7.ok .z)
theorem zbf.ok : Fo 99 (sg [.ag [.i .i64, .i .i64, .i .u64]] [.lf (.i .u64)]) fun _ => zbf.f := fo 9 Tryz.func99 .z
theorem zb0.ok : Fo 181 (sg [.ag [.i .i64, .i .i64, .i .u64], .lf (.i .u64)] [.lf (.i .u8)]) fun _ => zb0.f := fo 29 Tryz.func181 (.o zbf.ok .z)
theorem zdG.ok : Fo 117 (sg [.lf (.i .u8), .lf (.i .u64)] [.lf (.i .u8), .lf (.i .i64)]) zdG.f := fo 21 Tryz.func117 (.o zC.ok (.o zb0.ok .z))
theorem zcL.ok : Fo 182 (sg [.ag [.i .i64, .i .i64, .i .u64], .lf (.i .u64)] [.ag [.b, .i .i64, .i .u64]]) fun _ => zcL.f := fo 27 Tryz.func182 .z
theorem zdL.ok : Fo 118 (sg [.lf (.i .u8), .lf (.i .u64)] [.ag [.b, .i .i64, .i .u64], .lf (.i .i64)]) zdL.f := fo 22 Tryz.func118 (.o zC.ok (.o zcL.ok .z))
theorem zbn.ok : Fo 57 (sg [.lf (.i .u8), .lf (.i .u64)] [.lf (.s), .lf (.b), .lf (.i .i64)]) zbn.f := fo 39 Tryz.func57 (.o zdG.ok (.o zdL.ok .z)) [[tt, tt, tt, tt, tt, tt]] fun k => [⟨[(9, .bx [.b, .i .i64, .i .u64]), (11, .lf (.s))], zbn.j1 k⟩]
theorem zdM.ok : Fo 198 (sg [.lf (.i .u8), .lf (.i .u64)] [.ag [.i .i64, .i .i64, .i .u64], .lf (.i .i64)]) zdM.f := fo 25 Tryz.func198 (.o zC.ok (.o zb0.ok .z))
theorem zq.ok : Fo 219 (sg [.ow .u32] [.ow .u32]) zq.f := fo 21 Tryz.func219 .z [[tt, ff, ff]] fun k => [⟨[(0, .ow .u32)], zq.l0 k⟩]
theorem zq.ok1 : Fo 219 (sg [.lf (.is .u32)] [.lf (.is .u32)]) zq.f := fo 21 Tryz.func219 .z [[tt, ff, ff]] fun k => [⟨[(0, .lf (.is .u32))], zq.l0 k⟩]
theorem za7.ok : Fo 166 (sg [.lf (.i .u64)] [.lf (.is .u32)]) za7.f := fo 10 Tryz.func166 (.t zq.ok zq.ok1 .z)
theorem zbv.ok : Fo 199 (sg [.ag [.i .i64, .i .i64, .i .u64]] [.lf (.i .i64)]) fun _ => zbv.f := fo 10 Tryz.func199 .z
theorem zab.ok : Fo 164 (sg [.lf (.is .u32)] [.lf (.b)]) fun _ => zab.f := fo 20 Tryz.func164 .z
theorem zaN.ok : Fo 165 (sg [.lf (.is .u32)] [.lf (.i .i64)]) zaN.f := fo 23 Tryz.func165 (.o zab.ok (.o zaS.ok .z)) [[tt, tt, ff, tt, ff]] fun k => [⟨[(8, .lf (.is .u32)), (9, .lf (.i .i64)), (10, .lf (.i .i64))], zaN.l0 k⟩]
theorem zaI.ok : Fo 200 (sg [.lf (.is .u32), .lf (.i .i64)] [.lf (.is .u32)]) zaI.f := fo 60 Tryz.func200 (.t zq.ok zq.ok1 .z) [[tt, tt, tt, tt, tt, ff, tt, ff]] fun k => [⟨[(0, .lf (.is .u32)), (5, .lf (.i .i64)), (6, .ow .u32), (23, .lf (.is .u32)), (24, .lf (.i .i64)), (25, .lf (.i .i64))], zaI.l0 k⟩]
theorem z7.ok : Fo 220 (sg [.lf (.i .u32)] [.lf (.i .i64)]) z7.f := fo 19 Tryz.func220 .z [[tt, tt], [tt, tt, tt]] fun k => [⟨[(0, .lf (.i .u32)), (2, .lf (.i .i64))], z7.j0 k⟩, ⟨[(0, .lf (.i .u32)), (2, .lf (.i .i64))], z7.j1 k⟩]
theorem zau.ok : Fo 201 (sg [.lf (.is .u32)] [.lf (.i .i64)]) zau.f := fo 23 Tryz.func201 (.o zab.ok (.o z7.ok .z))
theorem zaJ.ok : Fo 202 (sg [.lf (.is .u32), .lf (.i .i64)] [.ow .u32]) zaJ.f := fo 50 Tryz.func202 (.t zq.ok zq.ok1 .z) [[tt, tt, tt, tt, ff, tt, ff]] fun k => [⟨[(5, .ow .u32), (6, .lf (.i .i64)), (7, .lf (.i .u32)), (24, .lf (.is .u32)), (25, .lf (.i .i64)), (26, .lf (.i .i64))], zaJ.l0 k⟩]
theorem zav.ok : Fo 146 (sg [.lf (.is .u32), .lf (.i .i64)] [.lf (.is .u32), .lf (.b), .lf (.i .i64)]) zav.f := fo 39 Tryz.func146 (.o zab.ok (.o zaN.ok (.o zaI.ok (.o zau.ok (.o zaJ.ok .z)))))
theorem zaE.ok : Fo 107 (sg [.lf (.b), .lf (.is .u32), .lf (.i .i64)] [.ag [.b, .is .u32, .i .i64], .lf (.i .i64)]) zaE.f := fo 47 Tryz.func107 (.o zav.ok (.o zab.ok (.o zaN.ok .z)))
theorem zbe.ok : Fo 145 (sg [.lf (.i .u8), .lf (.i .u64)] [.ag [.b, .is .u32, .i .i64], .lf (.i .i64)]) zbe.f := fo 47 Tryz.func145 (.o zaE.ok (.o za7.ok (.o zcL.ok (.o zdM.ok (.o zbv.ok .z))))) [[tt, tt, tt, tt, tt]] fun k => [⟨[(4, .bx [.b, .is .u32, .i .i64]), (6, .bx [.i .i64, .i .i64, .i .u64]), (8, .bx [.b, .i .i64, .i .u64])], zbe.j1 k⟩]
theorem zda.ok : Fo 240 (sg [.lf (.i .u32), .lf (.i .u32), .lf (.i .u32)] [.lf (.i .u32), .lf (.i .u32)]) fun _ => zda.f := fo 33 Tryz.func240 .z
theorem zaP.ok : Fo 203 (sg [.lf (.is .u32), .lf (.i .u32)] [.lf (.is .u32), .lf (.i .u32)]) zaP.f := fo 35 Tryz.func203 (.t zq.ok zq.ok1 (.o zda.ok .z)) [[tt, tt, tt, ff, tt, ff]] fun k => [⟨[(0, .lf (.is .u32)), (1, .lf (.i .u32)), (6, .ow .u32), (7, .lf (.i .u32)), (8, .lf (.i .i64))], zaP.l0 k⟩]
theorem zz.ok : Fo 147 (sg [.lf (.is .u32)] [.lf (.s), .lf (.i .i64)]) zz.f := fo 76 Tryz.func147 (.o zab.ok (.o zaP.ok .z)) [[tt, tt, tt, tt, ff, ff], [tt, tt, tt, tt, ff, ff, ff, tt, ff, tt, tt, tt, ff], [tt, tt, tt, tt, tt, ff, ff], [tt, tt, tt, tt, tt, tt, ff, tt, ff]] fun k => [⟨[(0, .lf (.is .u32)), (4, .ow .u8)], zz.l0 k⟩, ⟨[(0, .lf (.is .u32)), (4, .ow .u8), (6, .lf (.i .u32)), (7, .lf (.i .i64))], zz.l1 k⟩, ⟨[(4, .ow .u8)], zz.l2 k⟩, ⟨[(4, .ow .u8), (8, .lf (.i .i64)), (9, .lf (.i .i64))], zz.l3 k⟩]
theorem zD.ok : Fo 221 (sg [.lf (.i .u64)] [.lf (.i .i64)]) zD.f := fo 25 Tryz.func221 .z [[tt, tt], [tt, tt, tt], [tt, tt, tt, tt]] fun k => [⟨[(0, .lf (.i .u64)), (2, .lf (.i .i64))], zD.j0 k⟩, ⟨[(0, .lf (.i .u64)), (2, .lf (.i .i64))], zD.j1 k⟩, ⟨[(0, .lf (.i .u64)), (2, .lf (.i .i64))], zD.j2 k⟩]
theorem zdc.ok : Fo 167 (sg [.lf (.i .u64)] [.lf (.i .i64)]) zdc.f := fo 8 Tryz.func167 (.o zD.ok .z)
theorem zH.ok : Fo 168 (sg [.lf (.is .u32), .lf (.is .u32)] [.lf (.is .u32)]) zH.f := fo 68 Tryz.func168 (.t zq.ok zq.ok1 .z) [[tt, tt, ff, tt, ff], [tt, tt, ff, tt, ff, ff, tt, tt, ff, ff, tt, tt, ff, tt, ff]] fun k => [⟨[(1, .lf (.is .u32)), (5, .ow .u32), (18, .lf (.is .u32)), (19, .lf (.i .i64)), (20, .lf (.i .i64))], zH.l0 k⟩, ⟨[(1, .lf (.is .u32)), (5, .ow .u32), (6, .lf (.i .i64)), (7, .lf (.i .u32)), (8, .lf (.i .u64)), (18, .lf (.is .u32)), (19, .lf (.i .i64)), (20, .lf (.i .i64)), (25, .lf (.is .u32)), (26, .lf (.i .i64)), (27, .lf (.i .i64))], zH.l1 k⟩]
theorem zE.ok : Fo 108 (sg [.lf (.i .u32), .lf (.i .i64)] [.lf (.is .u32), .lf (.i .i64)]) zE.f := fo 55 Tryz.func108 (.o za7.ok (.o zdc.ok (.o zH.ok .z))) [[tt, tt, tt, ff, tt, ff], [tt, ff, ff, tt, tt, tt], [tt, tt, tt, ff, tt, ff, ff, tt, ff, ff, tt, tt, tt]] fun k => [⟨[(0, .lf (.i .u32)), (1, .lf (.i .i64)), (6, .lf (.is .u32)), (7, .lf (.i .i64))], zE.l0 k⟩, ⟨[(0, .lf (.i .u32)), (1, .lf (.i .i64)), (11, .lf (.b))], zE.j0 k⟩, ⟨[(0, .lf (.i .u32)), (1, .lf (.i .i64)), (6, .lf (.is .u32)), (7, .lf (.i .i64))], zE.j4 k⟩]
theorem zX.ok : Fo 204 (sg [.lf (.rw [.is .u32])] [.lf (.b)]) zX.f := fo 15 Tryz.func204 (.o zab.ok .z) [[tt, ff, tt, ff]] fun k => [⟨[(5, .lf (.rw [.is .u32])), (6, .lf (.i .i64)), (7, .lf (.i .i64))], zX.l0 k⟩]
theorem zaO.ok : Fo 205 (sg [.ow .u32] [.ow .u32, .lf (.i .i64)]) fun _ => zaO.f := fo 8 Tryz.func205 .z
theorem zaO.ok1 : Fo 205 (sg [.lf (.is .u32)] [.lf (.is .u32), .lf (.i .i64)]) fun _ => zaO.f := fo 8 Tryz.func205 .z
theorem zcA.ok : Fo 148 (sg [.lf (.is .u32), .lf (.is .u32)] [.lf (.is .u32), .lf (.i .i64)]) zcA.f := fo 34 Tryz.func148 (.o zH.ok (.o zX.ok (.t zaO.ok zaO.ok1 .z)))
theorem zbm.ok : Fo 85 (sg [.lf (.i .u8), .lf (.i .u64)] [.lf (.b), .lf (.s), .lf (.s)]) zbm.f := fo 93 Tryz.func85 (.o zE.ok (.o zao.ok (.o zbe.ok (.o zav.ok (.o zz.ok (.o zcA.ok .z)))))) [[tt, tt, tt, tt, tt, tt, tt]] fun k => [⟨[(7, .bx [.b, .is .u32, .i .i64]), (18, .lf (.s))], zbm.j1 k⟩]
theorem zbu.ok : Fo 183 (sg [.lf (.s), .lf (.i .u8)] [.lf (.s)]) zbu.f := fo 23 Tryz.func183 .z [[tt, ff, ff]] fun k => [⟨[(0, .lf (.s)), (1, .lf (.i .u8))], zbu.l0 k⟩]
theorem zbc.ok : Fo 119 (sg [.lf (.s), .lf (.s)] [.lf (.s)]) zbc.f := fo 37 Tryz.func119 (.o zbu.ok .z) [[tt, tt, ff, tt]] fun k => [⟨[(0, .lf (.s)), (1, .lf (.s)), (21, .lf (.b))], zbc.j2 k⟩]
theorem za4.ok : Fo 58 (sg [.lf (.i .u8), .lf (.i .u64)] [.ag [.b, .s, .i .i64]]) za4.f := fo 35 Tryz.func58 (.o zbm.ok (.o zbc.ok .z)) [[tt, tt, tt, tt, ff, ff]] fun k => [⟨[(4, .bx [.b, .s, .i .i64]), (5, .lf (.b)), (8, .lf (.i .i64)), (9, .lf (.s))], za4.l0 k⟩]
theorem zdk.ok : Fo 61 (sg [.ag [.b, .s, .i .i64], .lf (.i .i64)] [.ag [.b, .s, .i .i64]]) zdk.f := fo 15 Tryz.func61 (.o zbc.ok .z)
theorem za5.ok : Fo 62 (sg [.ag [.b, .s, .i .i64], .lf (.i .i64)] [.ag [.b, .s, .i .i64]]) za5.f := fo 45 Tryz.func62 .z [[tt, tt, ff, tt, ff]] fun k => [⟨[(2, .bx [.b, .s, .i .i64]), (4, .bx [.b, .s, .i .i64]), (5, .ow .u8), (6, .lf (.i .i64))], za5.l0 k⟩]
theorem zo.ok : Fo 48 (sg [.lf (.s)] [.lf (.is .u32), .lf (.i .i64)]) zo.f := fo 107 Tryz.func48 .z [[tt, tt, ff, tt, ff], [tt, tt, tt, tt, ff, tt, ff], [tt, tt, tt, tt, ff, tt, ff, ff, tt, ff, tt, tt, tt, ff, ff], [tt, tt, tt, tt, ff, tt, ff, ff, tt, ff, tt, tt, tt, tt, ff, tt, ff], [tt, tt, tt, tt, ff, tt, ff, ff, tt, ff, tt, tt], [tt, tt, tt, tt, ff, tt, ff, ff, tt, ff, tt, tt, tt, tt, tt, tt]] fun k => [⟨[(0, .lf (.s)), (25, .lf (.i .i64)), (26, .lf (.i .i64))], zo.l0 k⟩, ⟨[(0, .lf (.s)), (5, .ow .u32), (6, .lf (.i .i64))], zo.l1 k⟩, ⟨[(0, .lf (.s)), (5, .ow .u32), (6, .lf (.i .i64)), (7, .lf (.i .i64)), (8, .lf (.i .u64)), (9, .lf (.i .u64))], zo.l2 k⟩, ⟨[(0, .lf (.s)), (5, .ow .u32), (6, .lf (.i .i64)), (8, .lf (.i .u64)), (9, .lf (.i .u64)), (75, .al 5), (76, .lf (.i .i64)), (77, .lf (.i .i64))], zo.l3 k⟩, ⟨[(0, .lf (.s)), (5, .ow .u32), (6, .lf (.i .i64)), (7, .lf (.i .i64))], zo.j7 k⟩, ⟨[(0, .lf (.s)), (5, .ow .u32), (6, .lf (.i .i64))], zo.j10 k⟩]
theorem zd7.ok : Fo 208 (sg [.lf (.i .i64)] [.lf (.b)]) fun _ => zd7.f := fo 9 Tryz.func208 .z
theorem zbp.ok : Fo 155 (sg [.ag [.b, .is .u32, .i .i64]] [.lf (.b)]) fun _ => zbp.f := fo 30 Tryz.func155 (.o zab.ok (.o zd7.ok .z))
theorem zaM.ok : Fo 169 (sg [.lf (.rw [.b, .is .u32, .i .i64])] [.lf (.b)]) zaM.f := fo 15 Tryz.func169 (.o zbp.ok .z) [[tt, ff, tt, ff]] fun k => [⟨[(5, .lf (.rw [.b, .is .u32, .i .i64])), (6, .lf (.i .i64)), (7, .lf (.i .i64))], zaM.l0 k⟩]
theorem zcW.ok : Fo 109 (sg [.ag [.b, .is .u32, .i .i64], .ag [.b, .is .u32, .i .i64]] [.ag [.b, .is .u32, .i .i64], .lf (.i .i64)]) zcW.f := fo 40 Tryz.func109 (.o zaE.ok (.o zcA.ok (.o zaM.ok .z)))
theorem zek.ok : Fo 154 (sg [.lf (.i .u8)] [.ag [.i .i64, .i .i64, .i .i64], .lf (.b)]) fun _ => zek.f := fo 12 Tryz.func154 .z
theorem zS.ok : Fo 94 (sg [.lf (.i .u8), .lf (.i .u8), .lf (.rw [.b, .is .u32, .i .i64])] [.ag [.i .i64, .i .i64, .i .i64], .lf (.i .i64)]) zS.f := fo 39 Tryz.func94 (.o zek.ok (.o zbp.ok .z)) [[tt, tt, tt, tt, ff, tt, ff]] fun k => [⟨[(6, .bx [.i .i64, .i .i64, .i .i64]), (8, .bx [.i .i64, .i .i64, .i .i64]), (27, .lf (.rw [.b, .is .u32, .i .i64])), (28, .lf (.i .i64)), (29, .lf (.i .i64))], zS.l0 k⟩]
theorem zaU.ok : Fo 170 (sg [.ag [.b, .is .u32, .i .i64]] [.lf (.i .i64)]) zaU.f := fo 16 Tryz.func170 (.o zbp.ok .z) [[tt, ff, ff, tt]] fun k => [⟨[(1, .bx [.b, .is .u32, .i .i64]), (3, .lf (.b))], zaU.j0 k⟩]
theorem zan.ok : Fo 222 (sg [.lf (.is .u32)] [.lf (.i .u64), .lf (.b)]) zan.f := fo 31 Tryz.func222 (.o zab.ok .z) [[tt, tt, tt, ff, tt, ff]] fun k => [⟨[(4, .lf (.i .u64)), (15, .lf (.is .u32)), (16, .lf (.i .i64)), (17, .lf (.i .i64))], zan.l0 k⟩]
theorem zcD.ok : Fo 171 (sg [.ag [.b, .is .u32, .i .i64]] [.ag [.i .u64, .i .i64, .b]]) zcD.f := fo 33 Tryz.func171 (.o zav.ok (.o zau.ok (.o zan.ok .z)))
theorem zc2.ok : Fo 250 (sg [.lf (.i .u8), .lf (.b), .lf (.b), .lf (.b), .lf (.b)] [.lf (.b)]) fun _ => zc2.f := fo 42 Tryz.func250 .z
theorem zdy.ok : Fo 249 (sg [.lf (.b)] [.lf (.i .u64)]) fun _ => zdy.f := fo 4 Tryz.func249 .z
theorem zad.ok : Fo 223 (sg [.ag [.i .u64, .i .i64, .b], .lf (.i .u8), .lf (.b), .lf (.i .i64)] [.lf (.i .u64), .lf (.b)]) zad.f := fo 70 Tryz.func223 (.o zdy.ok (.o zc2.ok .z)) [[tt, tt, tt, tt, tt], [tt, tt, tt, tt, tt, tt]] fun k => [⟨[(1, .lf (.i .u8)), (2, .lf (.b)), (4, .bx [.i .u64, .i .i64, .b]), (10, .lf (.i .i64)), (11, .lf (.i .u64)), (12, .lf (.b)), (13, .lf (.b))], zad.j1 k⟩, ⟨[(1, .lf (.i .u8)), (2, .lf (.b)), (11, .lf (.i .u64)), (12, .lf (.b)), (13, .lf (.b))], zad.j2 k⟩]
theorem zdI.ok : Fo 156 (sg [.ag [.i .i64, .i .i64, .i .u64]] [.lf (.i .u64)]) fun _ => zdI.f := fo 6 Tryz.func156 (.o zbf.ok .z)
theorem zeE.ok : Fo 96 (sg [.lf (.i .u8), .lf (.b), .lf (.fn 156)] [.lf (.i .u64), .lf (.i .i64)]) zeE.f := fo 28 Tryz.func96 (.o zdI.ok (.o zC.ok .z))
theorem zdH.ok : Fo 95 (sg [.lf (.i .u8), .lf (.b)] [.lf (.i .u64), .lf (.i .i64)]) zdH.f := fo 11 Tryz.func95 (.o zeE.ok .z)
theorem zeG.ok : Fo 96 (sg [.lf (.i .u8), .lf (.b), .lf (.fn 99)] [.lf (.i .u64), .lf (.i .i64)]) zeG.f := fo 28 Tryz.func96 (.o zbf.ok (.o zC.ok .z))
theorem zcJ.ok : Fo 44 (sg [.lf (.i .u8), .lf (.b)] [.lf (.i .u64), .lf (.i .i64)]) zcJ.f := fo 11 Tryz.func44 (.o zeG.ok .z)
theorem zac.ok : Fo 41 (sg [.lf (.i .u8), .lf (.i .u8), .lf (.b)] [.lf (.i .u64), .lf (.i .i64)]) zac.f := fo 46 Tryz.func41 (.o zcJ.ok (.o zS.ok (.o zdH.ok .z))) [[tt, tt, ff, tt]] fun k => [⟨[(0, .lf (.i .u8)), (2, .lf (.b)), (35, .lf (.b))], zac.j1 k⟩]
theorem zc8.ok : Fo 251 (sg [.ag [.i .i64, .i .i64, .i .u64], .ag [.b, .i .i64, .i .u64]] [.lf (.i .u64)]) fun _ => zc8.f := fo 22 Tryz.func251 .z
theorem zci.ok : Fo 224 (sg [.lf (.i .u8), .ag [.b, .is .u32, .i .i64]] [.lf (.i .u64), .lf (.i .i64)]) zci.f := fo 95 Tryz.func224 (.o zbp.ok (.o zC.ok (.o zbv.ok (.o zD.ok (.o zan.ok (.o zc8.ok .z))))))
theorem zfy.ok : Fo 106 (sg [.ag [.i .i64, .i .i64, .i .u64]] [.lf (.i .u64)]) fun _ => zfy.f := fo 3 Tryz.func106 .z
theorem zeF.ok : Fo 96 (sg [.lf (.i .u8), .lf (.b), .lf (.fn 106)] [.lf (.i .u64), .lf (.i .i64)]) zeF.f := fo 28 Tryz.func96 (.o zfy.ok (.o zC.ok .z))
theorem zcK.ok : Fo 47 (sg [.lf (.i .u8), .lf (.b)] [.lf (.i .u64), .lf (.i .i64)]) zcK.f := fo 11 Tryz.func47 (.o zeF.ok .z)
theorem zaZ.ok : Fo 172 (sg [.ag [.i .u64, .i .i64, .b], .lf (.i .u8), .ag [.i .i64, .i .i64, .i .i64], .lf (.i .u8), .lf (.b)] [.lf (.i .u64), .lf (.i .u8)]) zaZ.f := fo 106 Tryz.func172 (.o zac.ok (.o zcK.ok (.o zaE.ok (.o za7.ok (.o zD.ok (.o zad.ok (.o zci.ok .z))))))) [[tt, tt, tt, tt, tt, tt, tt]] fun k => [⟨[(3, .lf (.i .u8)), (4, .lf (.b)), (5, .bx [.i .u64, .i .i64, .b]), (7, .bx [.i .i64, .i .i64, .i .i64]), (14, .lf (.b)), (19, .lf (.i .u64))], zaZ.j1 k⟩]
theorem zc1.ok : Fo 110 (sg [.lf (.i .u8), .lf (.i .u8), .ag [.b, .is .u32, .i .i64]] [.lf (.i .u64), .lf (.i .u8), .lf (.i .i64)]) zc1.f := fo 40 Tryz.func110 (.o zS.ok (.o zaU.ok (.o zcD.ok (.o zaZ.ok .z))))
theorem zd6.ok : Fo 225 (sg [.lf (.i .i64)] [.lf (.i .i64)]) fun _ => zd6.f := fo 9 Tryz.func225 .z
theorem zaw.ok : Fo 255 (sg [.lf (.is .u32), .lf (.is .u32)] [.lf (.i .i64)]) zaw.f := fo 43 Tryz.func255 .z [[tt, tt, ff, tt, ff]] fun k => [⟨[(0, .lf (.is .u32)), (1, .lf (.is .u32)), (5, .lf (.i .i64))], zaw.l0 k⟩]
theorem zdb.ok : Fo 267 (sg [.lf (.i .u32)] [.lf (.i .i64)]) zdb.f := fo 6 Tryz.func267 (.o z7.ok .z)
theorem zb1.ok : Fo 273 (sg [.lf (.i .u32), .lf (.i .u32), .lf (.i .u32)] [.lf (.i .u32), .lf (.i .u32)]) fun _ => zb1.f := fo 25 Tryz.func273 .z
theorem zck.ok : Fo 266 (sg [.lf (.i .u32), .lf (.i .u32), .lf (.i .u32)] [.lf (.i .u32), .lf (.i .u32)]) fun _ => zck.f := fo 22 Tryz.func266 .z
theorem zB.ok : Fo 268 (sg [.bo .u32, .lf (.is .u32)] [.lf (.i .u32)]) zB.f := fo 160 Tryz.func268 (.o zck.ok (.o zb1.ok .z)) [[tt, tt, tt, tt, ff, ff], [tt, tt, tt, tt, tt, tt, ff, tt, ff], [tt, tt, tt, tt, tt, tt, tt, tt, tt, tt, ff, tt, ff]] fun k => [⟨[(0, .bo .u32), (1, .lf (.is .u32)), (5, .lf (.i .i64)), (7, .lf (.i .u64)), (8, .lf (.i .u64))], zB.l0 k⟩, ⟨[(0, .bo .u32), (1, .lf (.is .u32)), (5, .lf (.i .i64)), (7, .lf (.i .u64)), (9, .lf (.i .u32)), (10, .lf (.i .u64)), (81, .lf (.is .u32)), (82, .lf (.i .i64)), (83, .lf (.i .i64))], zB.l1 k⟩, ⟨[(0, .bo .u32), (5, .lf (.i .i64)), (7, .lf (.i .u64)), (13, .lf (.i .u32)), (129, .lf (.is .u32)), (130, .lf (.i .i64)), (131, .lf (.i .i64))], zB.l2 k⟩]
theorem zY.ok : Fo 256 (sg [.lf (.is .u32), .lf (.is .u32)] [.lf (.is .u32), .lf (.is .u32)]) zY.f := fo 68 Tryz.func256 (.o zaI.ok (.o zaJ.ok (.t zq.ok zq.ok1 (.o zdb.ok (.o zB.ok .z))))) [[tt, tt, tt, tt, ff, ff], [tt, tt, tt, tt, tt, tt, tt, ff, tt, ff]] fun k => [⟨[(0, .lf (.is .u32)), (6, .lf (.i .i64)), (7, .ow .u32), (8, .ow .u32)], zY.l0 k⟩, ⟨[(6, .lf (.i .i64)), (7, .ow .u32), (8, .ow .u32), (9, .lf (.i .i64)), (10, .ow .u32), (11, .lf (.i .i64))], zY.l1 k⟩]
theorem zcB.ok : Fo 227 (sg [.lf (.is .u32), .lf (.is .u32)] [.lf (.is .u32), .lf (.is .u32), .lf (.i .i64)]) zcB.f := fo 49 Tryz.func227 (.o zaP.ok (.o zX.ok (.t zq.ok zq.ok1 (.o zaw.ok (.o zY.ok .z)))))
theorem zbq.ok : Fo 265 (sg [.lf (.is .u32), .lf (.is .u32)] [.lf (.is .u32)]) zbq.f := fo 41 Tryz.func265 (.t zq.ok zq.ok1 (.o zb1.ok .z)) [[tt, tt, tt, ff, tt, ff], [tt, tt, tt, ff, tt, ff, ff, tt, tt, ff, ff, tt, tt, tt]] fun k => [⟨[(0, .lf (.is .u32)), (1, .lf (.is .u32)), (5, .ow .u32), (6, .lf (.i .u32)), (13, .lf (.i .i64)), (14, .lf (.i .i64))], zbq.l0 k⟩, ⟨[(0, .lf (.is .u32)), (1, .lf (.is .u32)), (5, .ow .u32), (6, .lf (.i .u32)), (7, .lf (.i .i64)), (8, .lf (.i .u32)), (13, .lf (.i .i64)), (14, .lf (.i .i64))], zbq.j1 k⟩]
theorem zeg.ok : Fo 252 (sg [.lf (.is .u32), .lf (.is .u32)] [.lf (.is .u32), .lf (.i .i64)]) zeg.f := fo 18 Tryz.func252 (.o zX.ok (.o zaw.ok (.o zbq.ok .z)))
theorem zff.ok : Fo 253 (sg [.lf (.is .u32), .lf (.is .u32)] [.lf (.i .i64), .lf (.i .i64)]) zff.f := fo 14 Tryz.func253 (.o zX.ok (.o zaw.ok .z))
theorem zat.ok : Fo 254 (sg [.lf (.is .u32), .lf (.is .u32)] [.lf (.is .u32), .lf (.i .i64)]) zat.f := fo 63 Tryz.func254 (.o zX.ok (.t zaO.ok zaO.ok1 (.t zq.ok zq.ok1 (.o zck.ok .z)))) [[tt, tt, tt, tt, tt, ff, tt, ff], [tt, tt, tt], [tt, tt, tt, tt, tt, ff, tt, ff, ff, tt, tt, ff, ff, tt, tt, tt]] fun k => [⟨[(0, .lf (.is .u32)), (1, .lf (.is .u32)), (6, .ow .u32), (7, .lf (.i .u32)), (27, .lf (.i .i64)), (28, .lf (.i .i64))], zat.l0 k⟩, ⟨[(0, .lf (.is .u32)), (1, .lf (.is .u32))], zat.j1 k⟩, ⟨[(0, .lf (.is .u32)), (1, .lf (.is .u32)), (6, .ow .u32), (7, .lf (.i .u32)), (8, .lf (.i .i64)), (9, .lf (.i .u32)), (27, .lf (.i .i64)), (28, .lf (.i .i64))], zat.j3 k⟩]
theorem zb6.ok : Fo 228 (sg [.lf (.b), .lf (.is .u32), .lf (.i .i64), .lf (.b), .lf (.i .i64)] [.ag [.b, .is .u32, .i .i64], .lf (.b), .lf (.i .i64)]) zb6.f := fo 49 Tryz.func228 (.o zaE.ok (.o zav.ok (.o zau.ok .z)))
theorem zaF.ok : Fo 226 (sg [.ag [.b, .is .u32, .i .i64], .ag [.b, .is .u32, .i .i64], .lf (.i .i64)] [.ag [.b, .is .u32, .i .i64], .lf (.b), .lf (.i .i64)]) zaF.f := fo 119 Tryz.func226 (.o zav.ok (.o za7.ok (.o zau.ok (.o zcB.ok (.o zb6.ok (.o zeg.ok (.o zff.ok (.o zat.ok .z)))))))) [[tt, tt, tt, tt, tt, ff, ff], [tt, tt, tt, tt, tt, ff, ff, ff, tt, ff, tt, tt, ff, tt, tt], [tt, tt, tt, tt, tt, ff, ff, ff, tt, ff, tt, tt, tt]] fun k => [⟨[(2, .lf (.i .i64)), (3, .bx [.b, .is .u32, .i .i64]), (4, .bx [.b, .is .u32, .i .i64]), (6, .bx [.b, .is .u32, .i .i64]), (13, .lf (.is .u32)), (14, .lf (.is .u32)), (16, .lf (.i .i64))], zaF.l0 k⟩, ⟨[(2, .lf (.i .i64)), (3, .bx [.b, .is .u32, .i .i64]), (4, .bx [.b, .is .u32, .i .i64]), (6, .bx [.b, .is .u32, .i .i64]), (13, .lf (.is .u32)), (14, .lf (.is .u32)), (16, .lf (.i .i64)), (17, .lf (.is .u32)), (19, .lf (.i .u64)), (76, .lf (.b))], zaF.j2 k⟩, ⟨[(2, .lf (.i .i64)), (3, .bx [.b, .is .u32, .i .i64]), (4, .bx [.b, .is .u32, .i .i64]), (6, .bx [.b, .is .u32, .i .i64]), (13, .lf (.is .u32)), (14, .lf (.is .u32)), (16, .lf (.i .i64)), (19, .lf (.i .u64))], zaF.j3 k⟩]
theorem zbB.ok : Fo 173 (sg [.ag [.b, .is .u32, .i .i64], .ag [.b, .is .u32, .i .i64], .lf (.i .i64)] [.ag [.b, .is .u32, .i .i64], .lf (.b), .lf (.i .i64)]) zbB.f := fo 106 Tryz.func173 (.o zav.ok (.o zaM.ok (.o zau.ok (.o zd6.ok (.o zaF.ok (.o zcB.ok (.o zb6.ok .z))))))) [[tt, ff, tt]] fun k => [⟨[(2, .lf (.i .i64)), (3, .bx [.b, .is .u32, .i .i64]), (4, .bx [.b, .is .u32, .i .i64]), (6, .bx [.b, .is .u32, .i .i64]), (24, .lf (.b))], zbB.j0 k⟩]
theorem zbs.ok : Fo 111 (sg [.lf (.i .u8), .lf (.i .u8), .ag [.b, .is .u32, .i .i64], .ag [.b, .is .u32, .i .i64]] [.lf (.i .u64), .lf (.i .u8), .lf (.i .i64)]) zbs.f := fo 85 Tryz.func111 (.o zS.ok (.o zaU.ok (.o zcD.ok (.o zaZ.ok (.o zbB.ok .z))))) [[tt, tt, tt, tt, tt, tt, tt]] fun k => [⟨[(0, .lf (.i .u8)), (1, .lf (.i .u8)), (6, .bx [.b, .is .u32, .i .i64]), (7, .bx [.b, .is .u32, .i .i64]), (11, .bx [.i .i64, .i .i64, .i .i64]), (13, .lf (.b)), (17, .bx [.i .u64, .i .i64, .b])], zbs.j1 k⟩]
theorem zcs.ok : Fo 49 (sg [.lf (.i .u8), .lf (.i .u8), .lf (.b), .lf (.is .u32), .lf (.i .i64)] [.lf (.i .u64), .lf (.i .u8), .lf (.i .i64)]) zcs.f := fo 77 Tryz.func49 (.o zaE.ok (.o zE.ok (.o zcW.ok (.o zc1.ok (.o zbs.ok .z)))))
theorem zdm.ok : Fo 60 (sg [.ag [.b, .s, .i .i64], .lf (.i .u8), .lf (.i .u8)] [.lf (.i .u64), .lf (.i .u8), .lf (.i .i64)]) zdm.f := fo 33 Tryz.func60 (.o zo.ok (.o zcs.ok .z))
theorem zcr.ok : Fo 59 (sg [.ag [.b, .s, .i .i64], .ip [.i .u8], .ip [.i .u64]] [.lf (.b)]) zcr.f := fo 18 Tryz.func59 (.o zdm.ok .z)
theorem zdl.ok : Fo 63 (sg [.ag [.b, .s, .i .i64], .lf (.i .i64)] [.lf (.i .i64)]) fun _ => zdl.f := fo 22 Tryz.func63 (.o zbX.ok .z)
theorem ze8.ok : Fo 271 (sg [.lf (.i .i64)] [.lf (.b)]) fun _ => ze8.f := fo 8 Tryz.func271 .z
theorem zR.ok : Fo 261 (sg [.lf (.is .u8), .lf (.i .u64), .lf (.i .i64), .lf (.b), .lf (.b)] [.lf (.is .u8), .lf (.s)]) zR.f := fo 102 Tryz.func261 (.o ze8.ok (.o zbL.ok .z)) [[tt, tt, tt, tt, tt, ff, tt, ff, tt, tt, tt, ff, ff], [tt, tt, tt, tt, tt, ff, tt, tt, tt, ff, ff], [tt, tt, tt, tt, tt], [tt, tt, tt, tt, tt, tt], [tt, tt, tt, tt, tt, tt, tt]] fun k => [⟨[(0, .lf (.is .u8)), (1, .lf (.i .u64)), (3, .lf (.b)), (4, .lf (.b)), (10, .ow .u8), (11, .lf (.s)), (12, .ar .u8), (13, .lf (.i .i64)), (14, .lf (.i .u64)), (15, .lf (.i .u64)), (16, .lf (.i .u64))], zR.l0 k⟩, ⟨[(0, .lf (.is .u8)), (1, .lf (.i .u64)), (3, .lf (.b)), (4, .lf (.b)), (10, .ow .u8), (11, .lf (.s)), (12, .ar .u8), (13, .lf (.i .i64)), (17, .lf (.i .u64))], zR.l1 k⟩, ⟨[(0, .lf (.is .u8)), (1, .lf (.i .u64)), (2, .lf (.i .i64)), (3, .lf (.b)), (4, .lf (.b)), (10, .ow .u8), (11, .lf (.s)), (12, .ar .u8), (13, .lf (.i .i64))], zR.j2 k⟩, ⟨[(0, .lf (.is .u8)), (3, .lf (.b)), (4, .lf (.b)), (10, .ow .u8), (11, .lf (.s)), (12, .ar .u8), (13, .lf (.i .i64))], zR.j5 k⟩, ⟨[(0, .lf (.is .u8)), (4, .lf (.b)), (10, .ow .u8), (11, .lf (.s)), (12, .ar .u8), (13, .lf (.i .i64))], zR.j6 k⟩]
theorem zfb.ok : Fo 258 (sg [.lf (.i .i64)] [.lf (.s)]) fun _ => zfb.f := fo 15 Tryz.func258 .z
theorem ze9.ok : Fo 269 (sg [.lf (.i .i64)] [.lf (.i .i64)]) fun _ => ze9.f := fo 6 Tryz.func269 .z
theorem ze7.ok : Fo 270 (sg [.lf (.b)] [.lf (.i .i64)]) fun _ => ze7.f := fo 4 Tryz.func270 .z
theorem zfa.ok : Fo 259 (sg [.lf (.i .u64)] [.lf (.i .i64)]) zfa.f := fo 15 Tryz.func259 (.o zD.ok (.o ze9.ok (.o ze7.ok .z)))
theorem zaH.ok : Fo 260 (sg [.bo .u8, .lf (.i .u64)] []) zaH.f := fo 167 Tryz.func260 .z [[tt, ff, ff], [tt, tt, tt, tt], [tt, tt, tt, tt, tt]] fun k => [⟨[(0, .bo .u8), (1, .lf (.i .u64)), (4, .lf (.i .i64))], zaH.l0 k⟩, ⟨[(0, .bo .u8), (4, .lf (.i .i64)), (12, .lf (.i .u32))], zaH.j1 k⟩, ⟨[(0, .bo .u8), (4, .lf (.i .i64)), (12, .lf (.i .u32))], zaH.j2 k⟩]
theorem zbS.ok : Fo 236 (sg [.lf (.i .i64), .lf (.i .i64)] [.lf (.s)]) zbS.f := fo 54 Tryz.func236 (.o zfb.ok (.o zfa.ok (.o zaH.ok (.o zR.ok .z)))) [[tt, ff, tt, ff, tt, tt, tt, tt]] fun k => [⟨[(0, .lf (.i .i64)), (5, .ar .u8), (6, .lf (.i .u64))], zbS.j2 k⟩]
theorem ze6.ok : Fo 188 (sg [.lf (.i .i64)] [.lf (.s)]) ze6.f := fo 5 Tryz.func188 (.o zbS.ok .z)
theorem zce.ok : Fo 123 (sg [.lf (.i .i64)] [.lf (.s)]) zce.f := fo 5 Tryz.func123 (.o ze6.ok .z)
end Go.Proofs.YtnkpmjhlkmlmbaaGreatDoor.Eng
namespace Go.Proofs
open Go.Shelf Go.RowKit Go.Proofs.YtnkpmjhlkmlmbaaGreatDoor.Eng
set_option maxRecDepth 100000
def Tryz.renWB : Ren := { Tryz.layRepeat_ren with f := fun n => if n = 167 then 121 else Tryz.layRepeat_ren.f n }
theorem Tryz.layWB : Lays.n167 Tryz.prog Tryz.renWB where
 mixed := Tryz.layRepeat.mixed
 f167 := by kernel_rfl
 f240 := by kernel_rfl
 f276 := by kernel_rfl
 t0 := Tryz.layRepeat.t0
 a0 := Tryz.layRepeat.a0
 z0 := Tryz.layRepeat.z0
 v0 := Tryz.layRepeat.v0
 t4 := Tryz.layRepeat.t4
 a4 := Tryz.layRepeat.a4
 z4 := Tryz.layRepeat.z4
 v4 := Tryz.layRepeat.v4
 t5 := Tryz.layRepeat.t5
 a5 := Tryz.layRepeat.a5
 z5 := Tryz.layRepeat.z5
 v5 := Tryz.layRepeat.v5
 t9 := Tryz.layRepeat.t9
 a9 := Tryz.layRepeat.a9
 z9 := Tryz.layRepeat.z9
 v9 := Tryz.layRepeat.v9
 t20 := Tryz.layRepeat.t20
 a20 := Tryz.layRepeat.a20
 z20 := Tryz.layRepeat.z20
 v20 := Tryz.layRepeat.v20
 t37 := Tryz.layRepeat.t37
 a37 := Tryz.layRepeat.a37
 z37 := Tryz.layRepeat.z37
 v37 := Tryz.layRepeat.v37
 t70 := Tryz.layRepeat.t70
 a70 := Tryz.layRepeat.a70
 z70 := Tryz.layRepeat.z70
 v70 := Tryz.layRepeat.v70
 t72 := Tryz.layRepeat.t72
 a72 := Tryz.layRepeat.a72
 z72 := Tryz.layRepeat.z72
 v72 := Tryz.layRepeat.v72
 t75 := Tryz.layRepeat.t75
 a75 := Tryz.layRepeat.a75
 z75 := Tryz.layRepeat.z75
 v75 := Tryz.layRepeat.v75
 t164 := Tryz.layRepeat.t164
 a164 := Tryz.layRepeat.a164
 z164 := Tryz.layRepeat.z164
 v164 := Tryz.layRepeat.v164
theorem Tryz.layWS : Lays.n166 Tryz.prog Tryz.layRepeat_ren := { Tryz.layRepeat with }
theorem Tryz.laySt : Lays.n169 Tryz.prog Tryz.layRepeat_ren := { Tryz.layRepeat with }
theorem Tryz.xWB : Builder.Extra Tryz.prog Tryz.renWB := { Tryz.extraRepeat with }
theorem bc_app (l : List UInt8) (s : ByteArray) : Lib.byteCells l ++ Lib.strCells s = Lib.byteCells (l ++ s.data.toList) := by
 rw [Lib.byteCells_append]; rfl
theorem Tryz.wb (B b : Nat) (l : List UInt8) (w : World) (h : Lib.IsBuilder 176 5 B b (Lib.byteCells l) w) (hlen : l.length ≤ 1000000000) (hBw : B ≤ w.heap.size) :
  Calls Tryz.prog 121 #[.pointer (some ⟨b, 0, none⟩), .int .u8 45] w fun e w' => e = .returned .nilIface ∧ Lib.IsBuilder 176 5 B b (Lib.byteCells (l ++ [45])) w' ∧ Below B w w' :=
 (Any.Builder_WriteByte Tryz.layWB Tryz.xWB B b (Lib.byteCells l) 45 w h (by rw [Lib.byteCells_length]; omega) hBw).mono fun e w' ⟨h1, h2, h3⟩ => ⟨h1, .inr (by rw [Lib.byteCells_append]; exact h2), h3⟩
theorem Tryz.ws (B b : Nat) (l : List UInt8) (s : ByteArray) (w : World) (h : Lib.IsBuilder 176 5 B b (Lib.byteCells l) w) (hlen : l.length ≤ 1000000000) (hs : s.size ≤ 1000000000) (hBw : B ≤ w.heap.size) :
  Calls Tryz.prog 122 #[.pointer (some ⟨b, 0, none⟩), .string s] w fun e w' => e = .returned (.tuple #[.int .i64 s.size, .nilIface]) ∧ Lib.IsBuilder 176 5 B b (Lib.byteCells (l ++ s.data.toList)) w' ∧ Below B w w' :=
 (Any.Builder_WriteString Tryz.layWS Tryz.extraRepeat B b (Lib.byteCells l) s w h (by rw [Lib.byteCells_length]; omega) hBw).mono fun e w' ⟨h1, h2, h3⟩ => ⟨h1, .inr (by rw [← bc_app]; exact h2), h3⟩
theorem Tryz.st (B b : Nat) (l : List UInt8) (w : World) (h : Lib.IsBuilder 176 5 B b (Lib.byteCells l) w) (hBw : B ≤ w.heap.size) :
  Calls Tryz.prog 125 #[.pointer (some ⟨b, 0, none⟩)] w fun e w' => e = .returned (.string ⟨l.toArray⟩) ∧ Below B w w' := Any.Builder_String_any Tryz.laySt Tryz.extraRepeat B b l w h hBw
theorem builder_below {T e : TypeId} {B b : Nat} {bs : List Value} {w w' : World} (h : Lib.IsBuilder T e B b bs w) (hb : Below w.heap.size w w') : Lib.IsBuilder T e B b bs w' := by
 have one : ∀ p, Lib.BuilderAt T e B b p bs w → Lib.BuilderAt T e B b p bs w' := by
  rintro p ⟨h1, v, h2, h3, h4⟩
  refine ⟨h1, v, ?_, ?_, h4⟩
  ·rw [hb.block b (Array.getElem?_eq_some_iff.1 h2).1]; exact h2
  ·obtain ⟨k1, k2 | ⟨g, cap, cur, k2, k3, k4, k5⟩⟩ := h3
   ·exact ⟨k1, .inl k2⟩
   ·exact ⟨k1, .inr ⟨g, cap, cur, k2, k3, by rw [hb.block g (Array.getElem?_eq_some_iff.1 k4).1]; exact k4, k5⟩⟩
 rcases h with h | h
 ·exact .inl (one _ h)
 ·exact .inr (one _ h)
theorem ba_ext {a b : ByteArray} (h : a.data.toList = b.data.toList) : a = b := by
 cases a; cases b
 congr
 exact Array.toList_inj.1 h
theorem ba_len (s : ByteArray) : s.data.toList.length = s.size := by rw [Array.length_toList]; rfl
theorem ba_app (a b : ByteArray) : (a ++ b).data.toList = a.data.toList ++ b.data.toList := by simp
set_option maxHeartbeats 8000000 in
set_option maxRecDepth 1000000 in
theorem Tryz.plain_walk (k : Nat) (neg : Bool) (d : ByteArray) (x : Int) (r : ByteArray) (hr : zV.f k neg d x = some r) (hx1 : -9223372036854775808 ≤ x) (hx2 : x < 9223372036854775808) (w : World)
 (hI : ∀ it, zce.f k x = some it → ∀ w1 : World, Below w.heap.size w w1 → Calls Tryz.prog 123 #[.int .i64 x] w1 fun e w' => e = .returned (.string it) ∧ Below w1.heap.size w1 w') :
  Calls Tryz.prog 65 #[.agg #[.bool neg, .string d, .int .i64 x]] w fun e w' => e = .returned (.string r) ∧ Below w.heap.size w w' := by
 unfold zV.f at hr
 split at hr
 case isFalse => cases hr
 rename_i hb
 obtain ⟨hb1, hb2, hb3⟩ := hb
 have hw : ∀ n : Int, -4000000 ≤ n → n ≤ 4000000 → wrap64 n = n := fun n h1 h2 => by unfold wrap64; omega
 have hRep : ∀ (n : Int) (z : ByteArray) (w1 : World), zao.f (⟨#[48]⟩ : ByteArray) n = some z → Calls Tryz.prog 124 #[.string ⟨#[48]⟩, .int .i64 n] w1 fun e w' => e = .returned (.string z) ∧ Below w1.heap.size w1 w' := by
  intro n z w1 hz
  unfold zao.f at hz
  split at hz
  case isFalse => cases hz
  rename_i h
  obtain rfl := Option.some.inj hz
  have := Any.strings_Repeat Tryz.layRepeat Tryz.extraRepeat ⟨#[48]⟩ n.toNat w1 (by omega) h.2.1
  rw [Int.toNat_of_nonneg h.1] at this
  exact this
 have hRs : ∀ (n : Int) (z : ByteArray), zao.f (⟨#[48]⟩ : ByteArray) n = some z → n ≤ 10000000 → z.size ≤ 10000000 := by
  intro n z hz hn
  unfold zao.f at hz
  split at hz
  case isFalse => cases hz
  rename_i h
  obtain rfl := Option.some.inj hz
  show (Lib.repeatL [48] n.toNat).toArray.size ≤ _
  rw [List.size_toArray, Lib.repeatL_length]
  simp
  omega
 have hex : ∀ i j, (d.extract i j).size ≤ 1000000 := fun i j => by rw [ByteArray.size_extract]; omega
 go_enter Tryz.func65, Tryz.ntmps65
 cases neg with
 | false =>
  have hB0 : Lib.IsBuilder 176 5 (w.heap.size + 1) (w.heap.size + 1) (Lib.byteCells []) ((w.alloc (Obj.cells #[Value.bool false, Value.string d, Value.int IntKind.i64 x] 96)).alloc (Obj.cells #[Value.pointer none, Value.slice none 0 0] 176)) := by
   have := Lib.fresh_isBuilder 176 5 (w.alloc (Obj.cells #[Value.bool false, Value.string d, Value.int IntKind.i64 x] 96))
   have e : (w.alloc (Obj.cells #[Value.bool false, Value.string d, Value.int IntKind.i64 x] 96)).heap.size = w.heap.size + 1 := by simp
   rw [e] at this
   exact this
  have hbel0 : Below w.heap.size w ((w.alloc (Obj.cells #[Value.bool false, Value.string d, Value.int IntKind.i64 x] 96)).alloc (Obj.cells #[Value.pointer none, Value.slice none 0 0] 176)) := ((Below.refl _ w).alloc (Nat.le_refl _) _).alloc (by simp) _
  have hsz0 : w.heap.size + 2 ≤ ((w.alloc (Obj.cells #[Value.bool false, Value.string d, Value.int IntKind.i64 x] 96)).alloc (Obj.cells #[Value.pointer none, Value.slice none 0 0] 176)).heap.size := by simp
  have hc10 : ((w.alloc (Obj.cells #[Value.bool false, Value.string d, Value.int IntKind.i64 x] 96)).alloc (Obj.cells #[Value.pointer none, Value.slice none 0 0] 176)).cell? ⟨w.heap.size, 1, none⟩ = some (.string d) := by go_simp
  have hc20 : ((w.alloc (Obj.cells #[Value.bool false, Value.string d, Value.int IntKind.i64 x] 96)).alloc (Obj.cells #[Value.pointer none, Value.slice none 0 0] 176)).cell? ⟨w.heap.size, 2, none⟩ = some (.int .i64 x) := by go_simp
  go_wp2_with (fail)
  generalize ((w.alloc (Obj.cells #[Value.bool false, Value.string d, Value.int IntKind.i64 x] 96)).alloc (Obj.cells #[Value.pointer none, Value.slice none 0 0] 176)) = W1 at *
  have hB := hB0
  have hbel := hbel0
  have hsz := hsz0
  have hc1 := hc10
  have hc2 := hc20
  have hB1 : Lib.IsBuilder 176 5 (w.heap.size + 1) (w.heap.size + 1) (Lib.byteCells ([] : List UInt8)) W1.drew := by
   rcases hB with h | h
   ·exact .inl h.drew
   ·exact .inr h.drew
  have hw1 : Below w.heap.size w W1.drew := hbel.drew
  have hs1 : w.heap.size + 2 ≤ W1.drew.heap.size := hsz
  clear hB hbel hsz hB0 hbel0 hsz0 hc10 hc20
  go_region
  all_goals go_wp2_with (fail)
  ·rw [if_pos (by omega)] at hr
   split at hr
   case isFalse => cases hr
   rename_i hd1
   obtain ⟨it, hit, hr⟩ := Option.bind_eq_some_iff.1 hr
   split at hr
   case isFalse => cases hr
   rename_i hits
   obtain rfl := Option.some.inj hr
   refine (Tryz.ws (w.heap.size + 1) (w.heap.size + 1) ([] : List UInt8) (d.extract 0 1) _ hB1 (by simp) (Nat.le_trans (hex 0 1) (by omega)) (by omega)).mono ?_
   rintro e W2 ⟨rfl, hB2, b2⟩
   have s2 := b2.size
   have hw2 := hw1.trans (b2.mono (by omega))
   have l2 : (([] : List UInt8) ++ (d.extract 0 1).data.toList).length ≤ 1000001 := by
    have := hex 0 1
    have h1 : (d.extract 0 1).data.toList.length = (d.extract 0 1).size := by simp
    rw [List.length_append, h1]; simp; omega
   have hse : ((⟨#[101]⟩ : ByteArray) ++ it).size ≤ 2000000 := by rw [ByteArray.size_append]; have h1 : (⟨#[101]⟩ : ByteArray).size = 1 := rfl; omega
   have hsd : ((⟨#[46]⟩ : ByteArray) ++ d.extract 1 d.size).size ≤ 2000000 := by rw [ByteArray.size_append]; have := hex 1 d.size; have h1 : (⟨#[46]⟩ : ByteArray).size = 1 := rfl; omega
   have hx1' := hex 1 d.size
   have fin : ∀ (L3 : List UInt8) (W3 : World), w.heap.size + 2 ≤ W3.heap.size → L3.length ≤ 4000000 → Lib.IsBuilder 176 5 (w.heap.size + 1) (w.heap.size + 1) (Lib.byteCells L3) W3 → Below w.heap.size w W3 →
     Calls Tryz.prog 123 #[.int .i64 x] W3 (fun e w' => e = .returned (.string it) ∧ Lib.IsBuilder 176 5 (w.heap.size + 1) (w.heap.size + 1) (Lib.byteCells L3) w' ∧ Below w.heap.size w w' ∧ W3.heap.size ≤ w'.heap.size) := by
    intro L3 W3 h1 h2 h3 h4
    refine (hI it hit W3 h4).mono ?_
    rintro e w' ⟨h5, h6⟩
    exact ⟨h5, builder_below h3 h6, h4.trans (h6.mono (by omega)), h6.size⟩
   go_wp2_with (fail)
   ·rename_i hd2
    refine (Tryz.ws (w.heap.size + 1) (w.heap.size + 1) _ _ _ hB2 (by omega) (by omega) (by omega)).mono ?_
    rintro e W3 ⟨rfl, hB3, b3⟩
    have s3 := b3.size
    have hw3 := hw2.trans (b3.mono (by omega))
    have l3 : (([] : List UInt8) ++ (d.extract 0 1).data.toList ++ ((⟨#[46]⟩ : ByteArray) ++ d.extract 1 d.size).data.toList).length ≤ 3500000 := by
     have h1 : ((⟨#[46]⟩ : ByteArray) ++ d.extract 1 d.size).data.toList.length = ((⟨#[46]⟩ : ByteArray) ++ d.extract 1 d.size).size := ba_len _
     rw [List.length_append, h1]; omega
    go_wp2_with (fail)
    refine (fin _ W3 (by omega) (by omega) hB3 hw3).mono ?_
    rintro e W4 ⟨rfl, hB4, hw4, s4⟩
    go_wp2_with (fail)
    refine (Tryz.ws (w.heap.size + 1) (w.heap.size + 1) _ _ _ hB4 (by omega) (by omega) (by omega)).mono ?_
    rintro e W5 ⟨rfl, hB5, b5⟩
    have s5 := b5.size
    have hw5 := hw4.trans (b5.mono (by omega))
    go_wp2_with (fail)
    have hd3 : d.size > 1 := by omega
    refine (Tryz.st (w.heap.size + 1) (w.heap.size + 1) _ _ hB5 (by omega)).mono ?_
    rintro e W9 ⟨rfl, b9⟩
    go_wp2_with (fail)
    go_ret
    exact ⟨congrArg (fun s => Ending.returned (Value.string s)) (ba_ext (by simp only [ba_app, List.append_assoc, if_pos hd3, List.nil_append, List.append_nil, List.singleton_append, List.cons_append, List.toList_toArray, if_true, Bool.false_eq_true, if_false, ByteArray.data_extract, Array.toList_extract, List.extract_eq_take_drop, List.drop_zero, Nat.sub_zero, List.drop_one])), hw5.trans (b9.mono (by omega))⟩
   ·rename_i hd2
    refine (fin _ W2 (by omega) (by omega) hB2 hw2).mono ?_
    rintro e W4 ⟨rfl, hB4, hw4, s4⟩
    go_wp2_with (fail)
    refine (Tryz.ws (w.heap.size + 1) (w.heap.size + 1) _ _ _ hB4 (by omega) (by omega) (by omega)).mono ?_
    rintro e W5 ⟨rfl, hB5, b5⟩
    have s5 := b5.size
    have hw5 := hw4.trans (b5.mono (by omega))
    go_wp2_with (fail)
    have hd3 : ¬ d.size > 1 := by omega
    refine (Tryz.st (w.heap.size + 1) (w.heap.size + 1) _ _ hB5 (by omega)).mono ?_
    rintro e W9 ⟨rfl, b9⟩
    go_wp2_with (fail)
    go_ret
    exact ⟨congrArg (fun s => Ending.returned (Value.string s)) (ba_ext (by simp only [ba_app, List.append_assoc, if_neg hd3, List.nil_append, List.append_nil, List.singleton_append, List.cons_append, List.toList_toArray, if_true, Bool.false_eq_true, if_false, ByteArray.data_extract, Array.toList_extract, List.extract_eq_take_drop, List.drop_zero, Nat.sub_zero, List.drop_one])), hw5.trans (b9.mono (by omega))⟩
  ·exfalso
   rw [if_pos (by omega)] at hr
   split at hr
   ·omega
   ·cases hr
  ·rw [if_neg (by omega), if_pos (by omega)] at hr
   obtain ⟨z, hz, hr⟩ := Option.bind_eq_some_iff.1 hr
   obtain rfl := Option.some.inj hr
   have hzs := hRs _ _ hz (by omega)
   refine (hRep _ z _ hz).mono ?_
   rintro e W2 ⟨rfl, b2⟩
   have s2 := b2.size
   have hB2 := builder_below hB1 b2
   have hw2 := hw1.trans (b2.mono (by omega))
   have h02 : (⟨#[48, 46]⟩ : ByteArray).size = 2 := rfl
   have hza : ((⟨#[48, 46]⟩ : ByteArray) ++ z).size = 2 + z.size := by rw [ByteArray.size_append]; omega
   have hzb : ((⟨#[48, 46]⟩ : ByteArray) ++ z ++ d).size = 2 + z.size + d.size := by rw [ByteArray.size_append]; omega
   go_wp2_with (fail)
   refine (Tryz.ws (w.heap.size + 1) (w.heap.size + 1) _ _ _ hB2 (by simp) (by omega) (by omega)).mono ?_
   rintro e W5 ⟨rfl, hB5, b5⟩
   have s5 := b5.size
   have hw5 := hw2.trans (b5.mono (by omega))
   go_wp2_with (fail)
   refine (Tryz.st (w.heap.size + 1) (w.heap.size + 1) _ _ hB5 (by omega)).mono ?_
   rintro e W9 ⟨rfl, b9⟩
   go_wp2_with (fail)
   go_ret
   exact ⟨congrArg (fun s => Ending.returned (Value.string s)) (ba_ext (by simp only [ba_app, List.append_assoc, List.nil_append, List.append_nil, List.singleton_append, List.cons_append, List.toList_toArray, if_true, Bool.false_eq_true, if_false, ByteArray.data_extract, Array.toList_extract, List.extract_eq_take_drop, List.drop_zero, Nat.sub_zero, List.drop_one])), hw5.trans (b9.mono (by omega))⟩
  ·rw [if_neg (by omega), if_neg (by omega), if_pos (by omega)] at hr
   obtain rfl := Option.some.inj hr
   have h46 : (⟨#[46]⟩ : ByteArray).size = 1 := rfl
   have hxa := hex 0 (x + 1).toNat
   have hxb := hex (x + 1).toNat d.size
   have hza : (d.extract 0 (x + 1).toNat ++ (⟨#[46]⟩ : ByteArray)).size = (d.extract 0 (x + 1).toNat).size + 1 := by rw [ByteArray.size_append, h46]
   have hzb : (d.extract 0 (x + 1).toNat ++ (⟨#[46]⟩ : ByteArray) ++ d.extract (x + 1).toNat d.size).size = (d.extract 0 (x + 1).toNat).size + 1 + (d.extract (x + 1).toNat d.size).size := by rw [ByteArray.size_append, hza]
   have hB2 : Lib.IsBuilder 176 5 (w.heap.size + 1) (w.heap.size + 1) (Lib.byteCells ([] : List UInt8)) W1.drew.drew := by
    rcases hB1 with h | h
    ·exact .inl h.drew
    ·exact .inr h.drew
   have hs2 : w.heap.size + 2 ≤ W1.drew.drew.heap.size := hs1
   have q1 : x + 1 ≤ (d.size : Int) := by omega
   have q2 : 0 ≤ x + 1 := by omega
   have q3 : IntKind.i64.wrap (x + 1) = x + 1 := by simp [IntKind.wrap, IntKind.bits, IntKind.signed]; omega
   go_region_with (go_at_call 122; refine (Tryz.ws (w.heap.size + 1) (w.heap.size + 1) _ _ _ hB2 (by simp) (by omega) (by omega)).mono ?_; rintro e W5 ⟨rfl, hB5, b5⟩)
   have s5 := b5.size
   have hw5 := hw1.drew.trans (b5.mono (by omega))
   go_wp2_with (fail)
   refine (Tryz.st (w.heap.size + 1) (w.heap.size + 1) _ _ hB5 (by omega)).mono ?_
   rintro e W9 ⟨rfl, b9⟩
   go_wp2_with (fail)
   go_ret
   exact ⟨congrArg (fun s => Ending.returned (Value.string s)) (ba_ext (by simp only [ba_app, List.append_assoc, List.nil_append, List.append_nil, List.singleton_append, List.cons_append, List.toList_toArray, if_true, Bool.false_eq_true, if_false, ByteArray.data_extract, Array.toList_extract, List.extract_eq_take_drop, List.drop_zero, Nat.sub_zero, List.drop_one])), hw5.trans (b9.mono (by omega))⟩
  ·rw [if_neg (by omega), if_neg (by omega), if_neg (by omega)] at hr
   obtain ⟨z, hz, hr⟩ := Option.bind_eq_some_iff.1 hr
   obtain rfl := Option.some.inj hr
   have hzs := hRs _ _ hz (by omega)
   refine (hRep _ z _ hz).mono ?_
   rintro e W2 ⟨rfl, b2⟩
   have s2 := b2.size
   have hB2 := builder_below hB1 b2
   have hw2 := hw1.trans (b2.mono (by omega))
   have hza : (d ++ z).size = d.size + z.size := by rw [ByteArray.size_append]
   go_wp2_with (fail)
   refine (Tryz.ws (w.heap.size + 1) (w.heap.size + 1) _ _ _ hB2 (by simp) (by omega) (by omega)).mono ?_
   rintro e W5 ⟨rfl, hB5, b5⟩
   have s5 := b5.size
   have hw5 := hw2.trans (b5.mono (by omega))
   go_wp2_with (fail)
   refine (Tryz.st (w.heap.size + 1) (w.heap.size + 1) _ _ hB5 (by omega)).mono ?_
   rintro e W9 ⟨rfl, b9⟩
   go_wp2_with (fail)
   go_ret
   exact ⟨congrArg (fun s => Ending.returned (Value.string s)) (ba_ext (by simp only [ba_app, List.append_assoc, List.nil_append, List.append_nil, List.singleton_append, List.cons_append, List.toList_toArray, if_true, Bool.false_eq_true, if_false, ByteArray.data_extract, Array.toList_extract, List.extract_eq_take_drop, List.drop_zero, Nat.sub_zero, List.drop_one])), hw5.trans (b9.mono (by omega))⟩
  ·rw [if_pos (by omega)] at hr
   split at hr
   case isFalse => cases hr
   rename_i hd1
   obtain ⟨it, hit, hr⟩ := Option.bind_eq_some_iff.1 hr
   split at hr
   case isFalse => cases hr
   rename_i hits
   obtain rfl := Option.some.inj hr
   refine (Tryz.ws (w.heap.size + 1) (w.heap.size + 1) ([] : List UInt8) (d.extract 0 1) _ hB1 (by simp) (Nat.le_trans (hex 0 1) (by omega)) (by omega)).mono ?_
   rintro e W2 ⟨rfl, hB2, b2⟩
   have s2 := b2.size
   have hw2 := hw1.trans (b2.mono (by omega))
   have l2 : (([] : List UInt8) ++ (d.extract 0 1).data.toList).length ≤ 1000001 := by
    have := hex 0 1
    have h1 : (d.extract 0 1).data.toList.length = (d.extract 0 1).size := by simp
    rw [List.length_append, h1]; simp; omega
   have hse : ((⟨#[101]⟩ : ByteArray) ++ it).size ≤ 2000000 := by rw [ByteArray.size_append]; have h1 : (⟨#[101]⟩ : ByteArray).size = 1 := rfl; omega
   have hsd : ((⟨#[46]⟩ : ByteArray) ++ d.extract 1 d.size).size ≤ 2000000 := by rw [ByteArray.size_append]; have := hex 1 d.size; have h1 : (⟨#[46]⟩ : ByteArray).size = 1 := rfl; omega
   have hx1' := hex 1 d.size
   have fin : ∀ (L3 : List UInt8) (W3 : World), w.heap.size + 2 ≤ W3.heap.size → L3.length ≤ 4000000 → Lib.IsBuilder 176 5 (w.heap.size + 1) (w.heap.size + 1) (Lib.byteCells L3) W3 → Below w.heap.size w W3 →
     Calls Tryz.prog 123 #[.int .i64 x] W3 (fun e w' => e = .returned (.string it) ∧ Lib.IsBuilder 176 5 (w.heap.size + 1) (w.heap.size + 1) (Lib.byteCells L3) w' ∧ Below w.heap.size w w' ∧ W3.heap.size ≤ w'.heap.size) := by
    intro L3 W3 h1 h2 h3 h4
    refine (hI it hit W3 h4).mono ?_
    rintro e w' ⟨h5, h6⟩
    exact ⟨h5, builder_below h3 h6, h4.trans (h6.mono (by omega)), h6.size⟩
   go_wp2_with (fail)
   ·rename_i hd2
    refine (Tryz.ws (w.heap.size + 1) (w.heap.size + 1) _ _ _ hB2 (by omega) (by omega) (by omega)).mono ?_
    rintro e W3 ⟨rfl, hB3, b3⟩
    have s3 := b3.size
    have hw3 := hw2.trans (b3.mono (by omega))
    have l3 : (([] : List UInt8) ++ (d.extract 0 1).data.toList ++ ((⟨#[46]⟩ : ByteArray) ++ d.extract 1 d.size).data.toList).length ≤ 3500000 := by
     have h1 : ((⟨#[46]⟩ : ByteArray) ++ d.extract 1 d.size).data.toList.length = ((⟨#[46]⟩ : ByteArray) ++ d.extract 1 d.size).size := ba_len _
     rw [List.length_append, h1]; omega
    go_wp2_with (fail)
    refine (fin _ W3 (by omega) (by omega) hB3 hw3).mono ?_
    rintro e W4 ⟨rfl, hB4, hw4, s4⟩
    go_wp2_with (fail)
    refine (Tryz.ws (w.heap.size + 1) (w.heap.size + 1) _ _ _ hB4 (by omega) (by omega) (by omega)).mono ?_
    rintro e W5 ⟨rfl, hB5, b5⟩
    have s5 := b5.size
    have hw5 := hw4.trans (b5.mono (by omega))
    go_wp2_with (fail)
    have hd3 : d.size > 1 := by omega
    refine (Tryz.st (w.heap.size + 1) (w.heap.size + 1) _ _ hB5 (by omega)).mono ?_
    rintro e W9 ⟨rfl, b9⟩
    go_wp2_with (fail)
    go_ret
    exact ⟨congrArg (fun s => Ending.returned (Value.string s)) (ba_ext (by simp only [ba_app, List.append_assoc, if_pos hd3, List.nil_append, List.append_nil, List.singleton_append, List.cons_append, List.toList_toArray, if_true, Bool.false_eq_true, if_false, ByteArray.data_extract, Array.toList_extract, List.extract_eq_take_drop, List.drop_zero, Nat.sub_zero, List.drop_one])), hw5.trans (b9.mono (by omega))⟩
   ·rename_i hd2
    refine (fin _ W2 (by omega) (by omega) hB2 hw2).mono ?_
    rintro e W4 ⟨rfl, hB4, hw4, s4⟩
    go_wp2_with (fail)
    refine (Tryz.ws (w.heap.size + 1) (w.heap.size + 1) _ _ _ hB4 (by omega) (by omega) (by omega)).mono ?_
    rintro e W5 ⟨rfl, hB5, b5⟩
    have s5 := b5.size
    have hw5 := hw4.trans (b5.mono (by omega))
    go_wp2_with (fail)
    have hd3 : ¬ d.size > 1 := by omega
    refine (Tryz.st (w.heap.size + 1) (w.heap.size + 1) _ _ hB5 (by omega)).mono ?_
    rintro e W9 ⟨rfl, b9⟩
    go_wp2_with (fail)
    go_ret
    exact ⟨congrArg (fun s => Ending.returned (Value.string s)) (ba_ext (by simp only [ba_app, List.append_assoc, if_neg hd3, List.nil_append, List.append_nil, List.singleton_append, List.cons_append, List.toList_toArray, if_true, Bool.false_eq_true, if_false, ByteArray.data_extract, Array.toList_extract, List.extract_eq_take_drop, List.drop_zero, Nat.sub_zero, List.drop_one])), hw5.trans (b9.mono (by omega))⟩
  ·exfalso
   rw [if_pos (by omega)] at hr
   split at hr
   ·omega
   ·cases hr
 | true =>
  have hB0 : Lib.IsBuilder 176 5 (w.heap.size + 1) (w.heap.size + 1) (Lib.byteCells []) ((w.alloc (Obj.cells #[Value.bool true, Value.string d, Value.int IntKind.i64 x] 96)).alloc (Obj.cells #[Value.pointer none, Value.slice none 0 0] 176)) := by
   have := Lib.fresh_isBuilder 176 5 (w.alloc (Obj.cells #[Value.bool true, Value.string d, Value.int IntKind.i64 x] 96))
   have e : (w.alloc (Obj.cells #[Value.bool true, Value.string d, Value.int IntKind.i64 x] 96)).heap.size = w.heap.size + 1 := by simp
   rw [e] at this
   exact this
  have hbel0 : Below w.heap.size w ((w.alloc (Obj.cells #[Value.bool true, Value.string d, Value.int IntKind.i64 x] 96)).alloc (Obj.cells #[Value.pointer none, Value.slice none 0 0] 176)) := ((Below.refl _ w).alloc (Nat.le_refl _) _).alloc (by simp) _
  have hsz0 : w.heap.size + 2 ≤ ((w.alloc (Obj.cells #[Value.bool true, Value.string d, Value.int IntKind.i64 x] 96)).alloc (Obj.cells #[Value.pointer none, Value.slice none 0 0] 176)).heap.size := by simp
  have hc10 : ((w.alloc (Obj.cells #[Value.bool true, Value.string d, Value.int IntKind.i64 x] 96)).alloc (Obj.cells #[Value.pointer none, Value.slice none 0 0] 176)).cell? ⟨w.heap.size, 1, none⟩ = some (.string d) := by go_simp
  have hc20 : ((w.alloc (Obj.cells #[Value.bool true, Value.string d, Value.int IntKind.i64 x] 96)).alloc (Obj.cells #[Value.pointer none, Value.slice none 0 0] 176)).cell? ⟨w.heap.size, 2, none⟩ = some (.int .i64 x) := by go_simp
  go_wp2_with (fail)
  refine (Tryz.wb (w.heap.size + 1) (w.heap.size + 1) [] _ hB0 (by simp) (by omega)).mono ?_
  rintro e W1 ⟨rfl, hB, b1⟩
  have hbel := hbel0.trans (b1.mono (by omega))
  have hsz : w.heap.size + 2 ≤ W1.heap.size := Nat.le_trans hsz0 b1.size
  have hc1 : W1.cell? ⟨w.heap.size, 1, none⟩ = some (.string d) := by rw [b1.cell (by show w.heap.size < w.heap.size + 1; omega)]; exact hc10
  have hc2 : W1.cell? ⟨w.heap.size, 2, none⟩ = some (.int .i64 x) := by rw [b1.cell (by show w.heap.size < w.heap.size + 1; omega)]; exact hc20
  go_wp2_with (fail)
  have hB1 : Lib.IsBuilder 176 5 (w.heap.size + 1) (w.heap.size + 1) (Lib.byteCells ([45] : List UInt8)) W1.drew := by
   rcases hB with h | h
   ·exact .inl h.drew
   ·exact .inr h.drew
  have hw1 : Below w.heap.size w W1.drew := hbel.drew
  have hs1 : w.heap.size + 2 ≤ W1.drew.heap.size := hsz
  clear hB hbel hsz hB0 hbel0 hsz0 hc10 hc20
  go_region
  all_goals go_wp2_with (fail)
  ·rw [if_pos (by omega)] at hr
   split at hr
   case isFalse => cases hr
   rename_i hd1
   obtain ⟨it, hit, hr⟩ := Option.bind_eq_some_iff.1 hr
   split at hr
   case isFalse => cases hr
   rename_i hits
   obtain rfl := Option.some.inj hr
   refine (Tryz.ws (w.heap.size + 1) (w.heap.size + 1) ([45] : List UInt8) (d.extract 0 1) _ hB1 (by simp) (Nat.le_trans (hex 0 1) (by omega)) (by omega)).mono ?_
   rintro e W2 ⟨rfl, hB2, b2⟩
   have s2 := b2.size
   have hw2 := hw1.trans (b2.mono (by omega))
   have l2 : (([45] : List UInt8) ++ (d.extract 0 1).data.toList).length ≤ 1000001 := by
    have := hex 0 1
    have h1 : (d.extract 0 1).data.toList.length = (d.extract 0 1).size := by simp
    rw [List.length_append, h1]; simp; omega
   have hse : ((⟨#[101]⟩ : ByteArray) ++ it).size ≤ 2000000 := by rw [ByteArray.size_append]; have h1 : (⟨#[101]⟩ : ByteArray).size = 1 := rfl; omega
   have hsd : ((⟨#[46]⟩ : ByteArray) ++ d.extract 1 d.size).size ≤ 2000000 := by rw [ByteArray.size_append]; have := hex 1 d.size; have h1 : (⟨#[46]⟩ : ByteArray).size = 1 := rfl; omega
   have hx1' := hex 1 d.size
   have fin : ∀ (L3 : List UInt8) (W3 : World), w.heap.size + 2 ≤ W3.heap.size → L3.length ≤ 4000000 → Lib.IsBuilder 176 5 (w.heap.size + 1) (w.heap.size + 1) (Lib.byteCells L3) W3 → Below w.heap.size w W3 →
     Calls Tryz.prog 123 #[.int .i64 x] W3 (fun e w' => e = .returned (.string it) ∧ Lib.IsBuilder 176 5 (w.heap.size + 1) (w.heap.size + 1) (Lib.byteCells L3) w' ∧ Below w.heap.size w w' ∧ W3.heap.size ≤ w'.heap.size) := by
    intro L3 W3 h1 h2 h3 h4
    refine (hI it hit W3 h4).mono ?_
    rintro e w' ⟨h5, h6⟩
    exact ⟨h5, builder_below h3 h6, h4.trans (h6.mono (by omega)), h6.size⟩
   go_wp2_with (fail)
   ·rename_i hd2
    refine (Tryz.ws (w.heap.size + 1) (w.heap.size + 1) _ _ _ hB2 (by omega) (by omega) (by omega)).mono ?_
    rintro e W3 ⟨rfl, hB3, b3⟩
    have s3 := b3.size
    have hw3 := hw2.trans (b3.mono (by omega))
    have l3 : (([45] : List UInt8) ++ (d.extract 0 1).data.toList ++ ((⟨#[46]⟩ : ByteArray) ++ d.extract 1 d.size).data.toList).length ≤ 3500000 := by
     have h1 : ((⟨#[46]⟩ : ByteArray) ++ d.extract 1 d.size).data.toList.length = ((⟨#[46]⟩ : ByteArray) ++ d.extract 1 d.size).size := ba_len _
     rw [List.length_append, h1]; omega
    go_wp2_with (fail)
    refine (fin _ W3 (by omega) (by omega) hB3 hw3).mono ?_
    rintro e W4 ⟨rfl, hB4, hw4, s4⟩
    go_wp2_with (fail)
    refine (Tryz.ws (w.heap.size + 1) (w.heap.size + 1) _ _ _ hB4 (by omega) (by omega) (by omega)).mono ?_
    rintro e W5 ⟨rfl, hB5, b5⟩
    have s5 := b5.size
    have hw5 := hw4.trans (b5.mono (by omega))
    go_wp2_with (fail)
    have hd3 : d.size > 1 := by omega
    refine (Tryz.st (w.heap.size + 1) (w.heap.size + 1) _ _ hB5 (by omega)).mono ?_
    rintro e W9 ⟨rfl, b9⟩
    go_wp2_with (fail)
    go_ret
    exact ⟨congrArg (fun s => Ending.returned (Value.string s)) (ba_ext (by simp only [ba_app, List.append_assoc, if_pos hd3, List.nil_append, List.append_nil, List.singleton_append, List.cons_append, List.toList_toArray, if_true, Bool.false_eq_true, if_false, ByteArray.data_extract, Array.toList_extract, List.extract_eq_take_drop, List.drop_zero, Nat.sub_zero, List.drop_one])), hw5.trans (b9.mono (by omega))⟩
   ·rename_i hd2
    refine (fin _ W2 (by omega) (by omega) hB2 hw2).mono ?_
    rintro e W4 ⟨rfl, hB4, hw4, s4⟩
    go_wp2_with (fail)
    refine (Tryz.ws (w.heap.size + 1) (w.heap.size + 1) _ _ _ hB4 (by omega) (by omega) (by omega)).mono ?_
    rintro e W5 ⟨rfl, hB5, b5⟩
    have s5 := b5.size
    have hw5 := hw4.trans (b5.mono (by omega))
    go_wp2_with (fail)
    have hd3 : ¬ d.size > 1 := by omega
    refine (Tryz.st (w.heap.size + 1) (w.heap.size + 1) _ _ hB5 (by omega)).mono ?_
    rintro e W9 ⟨rfl, b9⟩
    go_wp2_with (fail)
    go_ret
    exact ⟨congrArg (fun s => Ending.returned (Value.string s)) (ba_ext (by simp only [ba_app, List.append_assoc, if_neg hd3, List.nil_append, List.append_nil, List.singleton_append, List.cons_append, List.toList_toArray, if_true, Bool.false_eq_true, if_false, ByteArray.data_extract, Array.toList_extract, List.extract_eq_take_drop, List.drop_zero, Nat.sub_zero, List.drop_one])), hw5.trans (b9.mono (by omega))⟩
  ·exfalso
   rw [if_pos (by omega)] at hr
   split at hr
   ·omega
   ·cases hr
  ·rw [if_neg (by omega), if_pos (by omega)] at hr
   obtain ⟨z, hz, hr⟩ := Option.bind_eq_some_iff.1 hr
   obtain rfl := Option.some.inj hr
   have hzs := hRs _ _ hz (by omega)
   refine (hRep _ z _ hz).mono ?_
   rintro e W2 ⟨rfl, b2⟩
   have s2 := b2.size
   have hB2 := builder_below hB1 b2
   have hw2 := hw1.trans (b2.mono (by omega))
   have h02 : (⟨#[48, 46]⟩ : ByteArray).size = 2 := rfl
   have hza : ((⟨#[48, 46]⟩ : ByteArray) ++ z).size = 2 + z.size := by rw [ByteArray.size_append]; omega
   have hzb : ((⟨#[48, 46]⟩ : ByteArray) ++ z ++ d).size = 2 + z.size + d.size := by rw [ByteArray.size_append]; omega
   go_wp2_with (fail)
   refine (Tryz.ws (w.heap.size + 1) (w.heap.size + 1) _ _ _ hB2 (by simp) (by omega) (by omega)).mono ?_
   rintro e W5 ⟨rfl, hB5, b5⟩
   have s5 := b5.size
   have hw5 := hw2.trans (b5.mono (by omega))
   go_wp2_with (fail)
   refine (Tryz.st (w.heap.size + 1) (w.heap.size + 1) _ _ hB5 (by omega)).mono ?_
   rintro e W9 ⟨rfl, b9⟩
   go_wp2_with (fail)
   go_ret
   exact ⟨congrArg (fun s => Ending.returned (Value.string s)) (ba_ext (by simp only [ba_app, List.append_assoc, List.nil_append, List.append_nil, List.singleton_append, List.cons_append, List.toList_toArray, if_true, Bool.false_eq_true, if_false, ByteArray.data_extract, Array.toList_extract, List.extract_eq_take_drop, List.drop_zero, Nat.sub_zero, List.drop_one])), hw5.trans (b9.mono (by omega))⟩
  ·rw [if_neg (by omega), if_neg (by omega), if_pos (by omega)] at hr
   obtain rfl := Option.some.inj hr
   have h46 : (⟨#[46]⟩ : ByteArray).size = 1 := rfl
   have hxa := hex 0 (x + 1).toNat
   have hxb := hex (x + 1).toNat d.size
   have hza : (d.extract 0 (x + 1).toNat ++ (⟨#[46]⟩ : ByteArray)).size = (d.extract 0 (x + 1).toNat).size + 1 := by rw [ByteArray.size_append, h46]
   have hzb : (d.extract 0 (x + 1).toNat ++ (⟨#[46]⟩ : ByteArray) ++ d.extract (x + 1).toNat d.size).size = (d.extract 0 (x + 1).toNat).size + 1 + (d.extract (x + 1).toNat d.size).size := by rw [ByteArray.size_append, hza]
   have hB2 : Lib.IsBuilder 176 5 (w.heap.size + 1) (w.heap.size + 1) (Lib.byteCells ([45] : List UInt8)) W1.drew.drew := by
    rcases hB1 with h | h
    ·exact .inl h.drew
    ·exact .inr h.drew
   have hs2 : w.heap.size + 2 ≤ W1.drew.drew.heap.size := hs1
   have q1 : x + 1 ≤ (d.size : Int) := by omega
   have q2 : 0 ≤ x + 1 := by omega
   have q3 : IntKind.i64.wrap (x + 1) = x + 1 := by simp [IntKind.wrap, IntKind.bits, IntKind.signed]; omega
   go_region_with (go_at_call 122; refine (Tryz.ws (w.heap.size + 1) (w.heap.size + 1) _ _ _ hB2 (by simp) (by omega) (by omega)).mono ?_; rintro e W5 ⟨rfl, hB5, b5⟩)
   have s5 := b5.size
   have hw5 := hw1.drew.trans (b5.mono (by omega))
   go_wp2_with (fail)
   refine (Tryz.st (w.heap.size + 1) (w.heap.size + 1) _ _ hB5 (by omega)).mono ?_
   rintro e W9 ⟨rfl, b9⟩
   go_wp2_with (fail)
   go_ret
   exact ⟨congrArg (fun s => Ending.returned (Value.string s)) (ba_ext (by simp only [ba_app, List.append_assoc, List.nil_append, List.append_nil, List.singleton_append, List.cons_append, List.toList_toArray, if_true, Bool.false_eq_true, if_false, ByteArray.data_extract, Array.toList_extract, List.extract_eq_take_drop, List.drop_zero, Nat.sub_zero, List.drop_one])), hw5.trans (b9.mono (by omega))⟩
  ·rw [if_neg (by omega), if_neg (by omega), if_neg (by omega)] at hr
   obtain ⟨z, hz, hr⟩ := Option.bind_eq_some_iff.1 hr
   obtain rfl := Option.some.inj hr
   have hzs := hRs _ _ hz (by omega)
   refine (hRep _ z _ hz).mono ?_
   rintro e W2 ⟨rfl, b2⟩
   have s2 := b2.size
   have hB2 := builder_below hB1 b2
   have hw2 := hw1.trans (b2.mono (by omega))
   have hza : (d ++ z).size = d.size + z.size := by rw [ByteArray.size_append]
   go_wp2_with (fail)
   refine (Tryz.ws (w.heap.size + 1) (w.heap.size + 1) _ _ _ hB2 (by simp) (by omega) (by omega)).mono ?_
   rintro e W5 ⟨rfl, hB5, b5⟩
   have s5 := b5.size
   have hw5 := hw2.trans (b5.mono (by omega))
   go_wp2_with (fail)
   refine (Tryz.st (w.heap.size + 1) (w.heap.size + 1) _ _ hB5 (by omega)).mono ?_
   rintro e W9 ⟨rfl, b9⟩
   go_wp2_with (fail)
   go_ret
   exact ⟨congrArg (fun s => Ending.returned (Value.string s)) (ba_ext (by simp only [ba_app, List.append_assoc, List.nil_append, List.append_nil, List.singleton_append, List.cons_append, List.toList_toArray, if_true, Bool.false_eq_true, if_false, ByteArray.data_extract, Array.toList_extract, List.extract_eq_take_drop, List.drop_zero, Nat.sub_zero, List.drop_one])), hw5.trans (b9.mono (by omega))⟩
  ·rw [if_pos (by omega)] at hr
   split at hr
   case isFalse => cases hr
   rename_i hd1
   obtain ⟨it, hit, hr⟩ := Option.bind_eq_some_iff.1 hr
   split at hr
   case isFalse => cases hr
   rename_i hits
   obtain rfl := Option.some.inj hr
   refine (Tryz.ws (w.heap.size + 1) (w.heap.size + 1) ([45] : List UInt8) (d.extract 0 1) _ hB1 (by simp) (Nat.le_trans (hex 0 1) (by omega)) (by omega)).mono ?_
   rintro e W2 ⟨rfl, hB2, b2⟩
   have s2 := b2.size
   have hw2 := hw1.trans (b2.mono (by omega))
   have l2 : (([45] : List UInt8) ++ (d.extract 0 1).data.toList).length ≤ 1000001 := by
    have := hex 0 1
    have h1 : (d.extract 0 1).data.toList.length = (d.extract 0 1).size := by simp
    rw [List.length_append, h1]; simp; omega
   have hse : ((⟨#[101]⟩ : ByteArray) ++ it).size ≤ 2000000 := by rw [ByteArray.size_append]; have h1 : (⟨#[101]⟩ : ByteArray).size = 1 := rfl; omega
   have hsd : ((⟨#[46]⟩ : ByteArray) ++ d.extract 1 d.size).size ≤ 2000000 := by rw [ByteArray.size_append]; have := hex 1 d.size; have h1 : (⟨#[46]⟩ : ByteArray).size = 1 := rfl; omega
   have hx1' := hex 1 d.size
   have fin : ∀ (L3 : List UInt8) (W3 : World), w.heap.size + 2 ≤ W3.heap.size → L3.length ≤ 4000000 → Lib.IsBuilder 176 5 (w.heap.size + 1) (w.heap.size + 1) (Lib.byteCells L3) W3 → Below w.heap.size w W3 →
     Calls Tryz.prog 123 #[.int .i64 x] W3 (fun e w' => e = .returned (.string it) ∧ Lib.IsBuilder 176 5 (w.heap.size + 1) (w.heap.size + 1) (Lib.byteCells L3) w' ∧ Below w.heap.size w w' ∧ W3.heap.size ≤ w'.heap.size) := by
    intro L3 W3 h1 h2 h3 h4
    refine (hI it hit W3 h4).mono ?_
    rintro e w' ⟨h5, h6⟩
    exact ⟨h5, builder_below h3 h6, h4.trans (h6.mono (by omega)), h6.size⟩
   go_wp2_with (fail)
   ·rename_i hd2
    refine (Tryz.ws (w.heap.size + 1) (w.heap.size + 1) _ _ _ hB2 (by omega) (by omega) (by omega)).mono ?_
    rintro e W3 ⟨rfl, hB3, b3⟩
    have s3 := b3.size
    have hw3 := hw2.trans (b3.mono (by omega))
    have l3 : (([45] : List UInt8) ++ (d.extract 0 1).data.toList ++ ((⟨#[46]⟩ : ByteArray) ++ d.extract 1 d.size).data.toList).length ≤ 3500000 := by
     have h1 : ((⟨#[46]⟩ : ByteArray) ++ d.extract 1 d.size).data.toList.length = ((⟨#[46]⟩ : ByteArray) ++ d.extract 1 d.size).size := ba_len _
     rw [List.length_append, h1]; omega
    go_wp2_with (fail)
    refine (fin _ W3 (by omega) (by omega) hB3 hw3).mono ?_
    rintro e W4 ⟨rfl, hB4, hw4, s4⟩
    go_wp2_with (fail)
    refine (Tryz.ws (w.heap.size + 1) (w.heap.size + 1) _ _ _ hB4 (by omega) (by omega) (by omega)).mono ?_
    rintro e W5 ⟨rfl, hB5, b5⟩
    have s5 := b5.size
    have hw5 := hw4.trans (b5.mono (by omega))
    go_wp2_with (fail)
    have hd3 : d.size > 1 := by omega
    refine (Tryz.st (w.heap.size + 1) (w.heap.size + 1) _ _ hB5 (by omega)).mono ?_
    rintro e W9 ⟨rfl, b9⟩
    go_wp2_with (fail)
    go_ret
    exact ⟨congrArg (fun s => Ending.returned (Value.string s)) (ba_ext (by simp only [ba_app, List.append_assoc, if_pos hd3, List.nil_append, List.append_nil, List.singleton_append, List.cons_append, List.toList_toArray, if_true, Bool.false_eq_true, if_false, ByteArray.data_extract, Array.toList_extract, List.extract_eq_take_drop, List.drop_zero, Nat.sub_zero, List.drop_one])), hw5.trans (b9.mono (by omega))⟩
   ·rename_i hd2
    refine (fin _ W2 (by omega) (by omega) hB2 hw2).mono ?_
    rintro e W4 ⟨rfl, hB4, hw4, s4⟩
    go_wp2_with (fail)
    refine (Tryz.ws (w.heap.size + 1) (w.heap.size + 1) _ _ _ hB4 (by omega) (by omega) (by omega)).mono ?_
    rintro e W5 ⟨rfl, hB5, b5⟩
    have s5 := b5.size
    have hw5 := hw4.trans (b5.mono (by omega))
    go_wp2_with (fail)
    have hd3 : ¬ d.size > 1 := by omega
    refine (Tryz.st (w.heap.size + 1) (w.heap.size + 1) _ _ hB5 (by omega)).mono ?_
    rintro e W9 ⟨rfl, b9⟩
    go_wp2_with (fail)
    go_ret
    exact ⟨congrArg (fun s => Ending.returned (Value.string s)) (ba_ext (by simp only [ba_app, List.append_assoc, if_neg hd3, List.nil_append, List.append_nil, List.singleton_append, List.cons_append, List.toList_toArray, if_true, Bool.false_eq_true, if_false, ByteArray.data_extract, Array.toList_extract, List.extract_eq_take_drop, List.drop_zero, Nat.sub_zero, List.drop_one])), hw5.trans (b9.mono (by omega))⟩
  ·exfalso
   rw [if_pos (by omega)] at hr
   split at hr
   ·omega
   ·cases hr
end Go.Proofs
namespace Go.Proofs.YtnkpmjhlkmlmbaaGreatDoor.Eng
open Go.RowKit Go.Proofs
theorem znw {P : Program} {M0 : Mem} {f : Nat} {F : Fun} (ok : qJ P M0 f F) {w : World} (h0 : Ext M0 (qc3 w)) {args : Array Value} {ls : List V} {r : F.S.R}
  (hs : args.size = F.S.ps.length) (ha : ∀ (i : Nat) (v : Value), args[i]? = some v → RV (qc3 w) (fun _ => none) v (qh (Ent F.S ls).t i))
  (hr : app (qo F.S.ps) F.f ls = some r) :
  Calls P f args w fun e w' => ∃ v M' φ', e = .returned v ∧ RV M' φ' v (qaQ (ql (Ent F.S ls).nx F.S.rs (F.S.un r)).1) ∧ Below w.heap.size w w' := by
 have hrel : Rel (qc3 w) (fun _ => none) (qc (Ent F.S ls).O) w := by
  refine ⟨fun _ _ _ h => h, ?_, ?_, ?_⟩
  ·intro id p h; cases h
  ·intro id p h; cases h
  ·intro id id' p p' _ h; cases h
 refine (ok.call (qc3 w) (fun _ => none) w args ls r h0 ⟨hrel, hs, ha, fun _ _ => rfl⟩ hr).mono fun e w' h => ?_
 obtain ⟨v, he, _, M', φ', hrv, _, hst, _⟩ := h
 exact ⟨v, M', φ', he, hrv, hst.kept.os, hst.kept.tape, hst.kept.output, hst.kept.size, fun k hk => hst.kept.block k hk fun _ => qgP⟩
theorem zV.ok : ∀ k, qJ Tryz.prog zax 65 (zV.F k) := fun k => by
 refine ⟨⟨Tryz.f65, qdF Tryz.f65, Tryz.func65, by kernel_rfl, by kernel_rfl⟩, rfl, rfl, fun M φ w args ls r hgl hc hr => ?_⟩
 have hlf : qe [.b, .s, .i .i64] ls = true := qap hr
 obtain ⟨neg, d, x, rfl⟩ : ∃ neg d x, ls = [.bool neg, .str d, .int .i64 x] := by
  match ls, hlf with
  | [a, b, c], h =>
   have h : qe [.b, .s, .i .i64] [a, b, c] = true := h
   simp only [qe, Bool.and_true, Bool.and_eq_true] at h
   obtain ⟨h1, h2, h3⟩ := h
   cases a <;> first | (cases h1; done) | skip
   cases b <;> first | (cases h2; done) | skip
   cases c <;> first | (cases h3; done) | skip
   rw [← qB h3]
   exact ⟨_, _, _, rfl⟩
  | [], h => cases h
  | [_], h => simp [qe] at h
  | [_, _], h => simp [qe] at h
  | _ :: _ :: _ :: _ :: _, h => simp [qe] at h
 have hr : zV.f k neg d x = some r := hr
 have hargs : args = #[.agg #[.bool neg, .string d, .int .i64 x]] := by
  have hs : args.size = 1 := hc.size
  have h0 : args[0]? = some (args[0]'(by omega)) := Array.getElem?_eq_getElem _
  obtain ⟨a, e, has, hg⟩ := (show RA M φ _ (.agg [.bool neg, .str d, .int .i64 x]) from hc.args 0 _ h0)
  obtain ⟨u0, g0, r0⟩ := hg 0 _ rfl
  obtain ⟨u1, g1, r1⟩ := hg 1 _ rfl
  obtain ⟨u2, g2, r2⟩ := hg 2 _ rfl
  have e0 : u0 = .bool neg := r0
  have e1 : u1 = .string d := r1
  have e2 : u2 = .int .i64 x := r2.1
  have ea : a = #[.bool neg, .string d, .int .i64 x] := by
   apply Array.ext_getElem?
   intro i
   match i with
   | 0 => rw [g0, e0]; rfl
   | 1 => rw [g1, e1]; rfl
   | 2 => rw [g2, e2]; rfl
   | i + 3 => rw [Array.getElem?_eq_none (by rw [has]; simp), Array.getElem?_eq_none (by simp)]
  apply Array.ext_getElem?
  intro i
  cases i with
  | zero => rw [h0, e, ea]; rfl
  | succ i => rw [Array.getElem?_eq_none (by omega), Array.getElem?_eq_none (by simp)]
 have hx : -1000000 ≤ x ∧ x ≤ 1000000 := by
  have h := hr
  unfold zV.f at h
  split at h
  ·rename_i hb; exact hb.2
  ·cases h
 have hcall := Tryz.plain_walk k neg d x r hr (by omega) (by omega) w fun it hit w1 hb1 => by
  refine (znw (zce.ok k) (w := w1) (args := #[.int .i64 x]) (ls := [.int .i64 x]) (r := it) ?_ rfl ?_ hit).mono ?_
  ·intro b o v hv
   have h1 := hc.rel.holds b o v (hgl b o v hv)
   show w1.cell? _ = _
   rw [hb1.cell (qa5 h1)]
   exact h1
  ·intro i v hv
   cases i with
   | zero =>
    obtain rfl := Option.some.inj hv
    exact ⟨rfl, qbO _⟩
   | succ i => simp at hv
  ·rintro e w' ⟨v, M', φ', he, hrv, hbl⟩
   have hv : v = .string it := hrv
   exact ⟨by rw [he, hv], hbl⟩
 rw [hargs]
 refine hcall.mono fun e w' ⟨he, hb⟩ => ⟨_, he, rfl, M, φ, rfl, ?_, ?_, qp.refl φ⟩
 all_goals
  have hg := qh4 hb
  have hB : qaa (zV.F k).S (Ent (zV.F k).S [.bool neg, .str d, .int .i64 x]).nx r = fun _ => .gone := rfl
  have hB0 : qc (Ent (zV.F k).S [.bool neg, .str d, .int .i64 x]).O = fun _ => .gone := rfl
  rw [hB]
 ·have := hc.rel.grew hg
  rwa [hB0] at this
 ·rw [hB0]
  exact ⟨Ext.refl M, hg.kp _, fun _ _ h => .inl h, fun _ _ _ h => .inl h⟩
set_option maxRecDepth 100000
theorem zcT.ok : Fo 64 (sg [.ag [.b, .s, .i .i64], .lf (.i .i64)] [.lf (.b)]) fun _ => zcT.f := fo 13 Tryz.func64 .z
theorem zy.ok : Fo 18 (sg [.lf (.i .u8), .lf (.i .u64)] [.lf (.s), .lf (.i .i64)]) zy.f := fo 85 Tryz.func18 (.o zbn.ok (.o za4.ok (.o zcr.ok (.o zdk.ok (.o za5.ok (.o zdl.ok (.o zcT.ok (.o zV.ok .z)))))))) [[tt, tt, tt, tt, ff, tt, ff], [tt, ff, tt, tt], [tt, tt, tt, tt, ff, tt, ff, ff, tt, ff, ff, tt, tt, ff, tt], [tt, tt, tt, tt, ff, tt, ff, ff, tt, ff, ff, tt, tt, tt]] (fun k => [⟨[(9, .bx [.b, .s, .i .i64]), (10, .cl 59 [[.i .u8], [.i .u64]]), (11, .lf (.i .i64))], zy.l0 k⟩, ⟨[(2, .ip [.i .u8]), (3, .ip [.i .u64]), (6, .lf (.s)), (8, .lf (.i .i64)), (28, .lf (.b))], zy.j0 k⟩, ⟨[(9, .bx [.b, .s, .i .i64]), (10, .cl 59 [[.i .u8], [.i .u64]]), (11, .lf (.i .i64)), (12, .bx [.b, .s, .i .i64]), (13, .bx [.b, .s, .i .i64]), (14, .lf (.b)), (15, .lf (.b)), (57, .lf (.b))], zy.j3 k⟩, ⟨[(9, .bx [.b, .s, .i .i64]), (10, .cl 59 [[.i .u8], [.i .u64]]), (11, .lf (.i .i64)), (12, .bx [.b, .s, .i .i64]), (13, .bx [.b, .s, .i .i64]), (14, .lf (.b)), (15, .lf (.b))], zy.j5 k⟩]) (frz := [2, 3])
theorem zdp.ok : Fo 150 (sg [.lf (.s), .lf (.s)] [.lf (.b)]) fun _ => zdp.f := fo 18 Tryz.func150 .z
theorem zcf.ok : Fo 88 (sg [.lf (.s), .lf (.s)] [.lf (.b)]) fun _ => zcf.f := fo 8 Tryz.func88 (.o zdp.ok .z)
theorem zaB.ok : Fo 32 (sg [.lf (.i .u8), .ag [.i .u64, .i .u64]] [.lf (.s), .lf (.i .i64)]) zaB.f := fo 40 Tryz.func32 (.o zy.ok (.o zdv.ok (.o zcf.ok .z))) [[tt, tt, tt, tt, tt]] fun k => [⟨[(7, .lf (.s)), (9, .lf (.s))], zaB.j1 k⟩]
theorem zcy.ok : Fo 206 (sg [.lf (.s), .lf (.s)] [.lf (.b)]) fun _ => zcy.f := fo 21 Tryz.func206 .z
theorem zdo.ok : Fo 151 (sg [.lf (.s), .lf (.s)] [.lf (.s), .lf (.b)]) fun _ => zdo.f := fo 18 Tryz.func151 (.o zcy.ok .z)
theorem zcF.ok : Fo 89 (sg [.lf (.s), .lf (.s)] [.lf (.s), .lf (.b)]) fun _ => zcF.f := fo 11 Tryz.func89 (.o zdo.ok .z)
theorem zc9.ok : Fo 97 (sg [.ag [.i .i64, .i .i64, .i .u64]] [.lf (.i .u64)]) fun _ => zc9.f := fo 10 Tryz.func97 (.o zbf.ok .z)
theorem zeH.ok : Fo 96 (sg [.lf (.i .u8), .lf (.b), .lf (.fn 97)] [.lf (.i .u64), .lf (.i .i64)]) zeH.f := fo 28 Tryz.func96 (.o zc9.ok (.o zC.ok .z))
theorem zdK.ok : Fo 42 (sg [.lf (.i .u8)] [.lf (.i .u64), .lf (.i .i64)]) zdK.f := fo 8 Tryz.func42 (.o zeH.ok .z)
theorem zcG.ok : Fo 98 (sg [.lf (.s), .lf (.i .u8)] [.lf (.i .i64)]) fun _ => zcG.f := fo 8 Tryz.func98 (.o zbD.ok .z)
theorem zW.ok : Fo 43 (sg [.bb [.s, .i .i64], .lf (.s)] [.lf (.i .u8), .lf (.b)]) zW.f := fo 47 Tryz.func43 (.o zcG.ok .z) [[tt, ff, tt]] fun k => [⟨[(0, .bb [.s, .i .i64]), (29, .lf (.b))], zW.j0 k⟩]
theorem zaL.ok : Fo 100 (sg [.bb [.s, .i .i64]] [.lf (.s)]) zaL.f := fo 59 Tryz.func100 .z [[tt, tt, ff, ff]] fun k => [⟨[(0, .bb [.s, .i .i64]), (3, .lf (.i .i64))], zaL.l0 k⟩]
theorem zK.ok : Fo 45 (sg [.bb [.s, .i .i64]] [.lf (.s), .lf (.i .i64), .lf (.b)]) zK.f := fo 81 Tryz.func45 (.o zW.ok (.o zaL.ok (.o zbb.ok .z))) [[tt, tt, tt, tt], [tt, tt, tt, tt, tt]] fun k => [⟨[(0, .bb [.s, .i .i64]), (5, .lf (.s)), (6, .lf (.i .i64))], zK.j2 k⟩, ⟨[(0, .bb [.s, .i .i64]), (5, .lf (.s)), (6, .lf (.i .i64))], zK.j6 k⟩]
theorem zbt.ok : Fo 102 (sg [.lf (.s), .lf (.i .u8)] [.lf (.s)]) zbt.f := fo 17 Tryz.func102 .z [[tt, ff, ff]] fun k => [⟨[(0, .lf (.s)), (1, .lf (.i .u8))], zbt.l0 k⟩]
theorem zbH.ok : Fo 46 (sg [.lf (.s), .lf (.s)] [.lf (.s)]) zbH.f := fo 37 Tryz.func46 (.o zbt.ok .z) [[tt, tt, ff, tt]] fun k => [⟨[(0, .lf (.s)), (1, .lf (.s)), (21, .lf (.b))], zbH.j2 k⟩]
theorem zbP.ok : Fo 14 (sg [.lf (.i .u8), .lf (.i .u8), .lf (.s)] [.lf (.i .u64), .lf (.i .u8), .lf (.i .i64)]) zbP.f := fo 103 Tryz.func14 (.o zac.ok (.o zdK.ok (.o zW.ok (.o zcJ.ok (.o zK.ok (.o zbH.ok (.o zcK.ok (.o zo.ok (.o zcs.ok .z)))))))))
theorem zaC.ok : Fo 152 (sg [.lf (.s)] [.lf (.i .i64)]) zaC.f := fo 29 Tryz.func152 .z [[tt, ff, tt, ff]] fun k => [⟨[(0, .lf (.s)), (3, .lf (.i .i64))], zaC.l0 k⟩]
theorem zeD.ok : Fo 242 (sg [.ag [.i .i64, .i .i64, .i .u64], .ip [.i .u64]] [.lf (.i .u64)]) fun _ => zeD.f := fo 8 Tryz.func242 .z
theorem zdO.ok : Fo 241 (sg [.lf (.i .u8), .lf (.i .u64), .cl 242 [[.i .u64]]] [.lf (.i .u64), .lf (.i .i64)]) zdO.f := fo 29 Tryz.func241 (.o zc9.ok (.o zC.ok (.o zb0.ok (.o zeD.ok .z))))
theorem zdJ.ok : Fo 207 (sg [.lf (.i .u8), .lf (.i .u64)] [.lf (.i .u64), .lf (.i .i64)]) zdJ.f := fo 12 Tryz.func207 (.o zdO.ok .z) (frz := [3])
theorem zA.ok : Fo 153 (sg [.ag [.i .u8, .i .u8], .lf (.s)] [.lf (.i .u64), .lf (.i .u8), .lf (.b)]) zA.f := fo 63 Tryz.func153 (.o zbP.ok (.o zcf.ok (.o zdJ.ok .z))) [[tt, tt, tt, tt, tt], [tt, tt, tt, tt, tt, tt, ff, tt], [tt, tt, tt, tt, tt, tt, tt]] fun k => [⟨[(1, .lf (.s)), (2, .bx [.i .u8, .i .u8]), (7, .lf (.s)), (8, .lf (.i .u8))], zA.j3 k⟩, ⟨[(2, .bx [.i .u8, .i .u8]), (9, .lf (.i .u64)), (10, .lf (.i .u8)), (11, .lf (.i .i64)), (51, .lf (.b))], zA.j4 k⟩, ⟨[(9, .lf (.i .u64)), (10, .lf (.i .u8)), (11, .lf (.i .i64))], zA.j5 k⟩]
theorem zdf.ok : Fo 90 (sg [.ag [.i .u8, .i .u8], .lf (.s)] [.ag [.i .u64, .i .u64, .i .u8, .i .u8], .lf (.i .i64)]) zdf.f := fo 52 Tryz.func90 (.o zbP.ok (.o zaC.ok (.o zA.ok .z)))
theorem zas.ok : Fo 36 (sg [.lf (.i .u8), .lf (.i .u8), .lf (.s)] [.ag [.i .u64, .i .u64, .i .u8, .i .u8], .lf (.i .i64)]) zas.f := fo 70 Tryz.func36 (.o zbP.ok (.o zac.ok (.o zcF.ok (.o zdf.ok .z)))) [[tt, tt, tt, tt, tt, ff, ff, tt]] fun k => [⟨[(0, .lf (.i .u8)), (1, .lf (.i .u8)), (6, .bx [.i .u64, .i .u64, .i .u8, .i .u8]), (10, .lf (.s)), (11, .lf (.b)), (12, .lf (.i .u64)), (13, .lf (.i .u8)), (14, .lf (.i .i64)), (42, .lf (.b))], zas.j2 k⟩]
theorem zcn.ok : Fo 34 (sg [] [.lf (.b)]) zcn.f := fo 30 Tryz.func34 (.o zaB.ok (.o zas.ok .z))
theorem zcq.ok : Fo 114 (sg [.lf (.i .u8)] [.lf (.i .u64)]) fun _ => zcq.f := fo 5 Tryz.func114 .z
theorem zbO.ok : Fo 113 (sg [.lf (.i .u8)] [.lf (.i .i64)]) fun _ => zbO.f := fo 5 Tryz.func113 .z
theorem zdh.ok : Fo 75 (sg [.lf (.i .u8), .lf (.i .u64)] [.ag [.b, .i .i64, .i .u64]]) fun _ => zdh.f := fo 28 Tryz.func75 (.o zbO.ok (.o zcq.ok .z))
theorem zcp.ok : Fo 76 (sg [.lf (.i .u8)] [.lf (.i .i64)]) fun _ => zcp.f := fo 5 Tryz.func76 .z
theorem zdg.ok : Fo 21 (sg [.lf (.i .u8), .lf (.i .u64)] [.lf (.i .u8)]) fun _ => zdg.f := fo 28 Tryz.func21 (.o zdh.ok (.o zcp.ok .z))
theorem zeX.ok : Fo 112 (sg [.lf (.i .u8), .ag [.b, .i .i64, .i .u64]] [.lf (.i .u64)]) fun _ => zeX.f := fo 22 Tryz.func112 (.o zbO.ok (.o zcq.ok .z))
theorem zd1.ok : Fo 53 (sg [.lf (.i .u8)] [.lf (.i .u64)]) fun _ => zd1.f := fo 12 Tryz.func53 (.o zcp.ok (.o zeX.ok (.o zbO.ok .z)))
theorem zcQ.ok : Fo 29 (sg [.lf (.i .u8), .lf (.i .u64)] [.lf (.i .u64)]) fun _ => zcQ.f := fo 12 Tryz.func29 (.o zdg.ok (.o zd1.ok .z))
theorem zb4.ok : Fo 39 (sg [.lf (.i .u8), .ag [.i .u64, .i .u64]] [.ag [.i .u64, .i .u64]]) fun _ => zb4.f := fo 14 Tryz.func39 (.o zcQ.ok .z)
theorem zdi.ok : Fo 40 (sg [.lf (.i .u8), .ag [.i .u64, .i .u64], .ag [.i .u64, .i .u64]] [.lf (.b)]) fun _ => zdi.f := fo 14 Tryz.func40 (.o zb4.ok .z)
theorem zd0.ok : Fo 13 (sg [.lf (.i .u8), .ag [.i .u64, .i .u64], .ag [.i .u64, .i .u64]] [.lf (.b)]) zd0.f := fo 67 Tryz.func13 (.o zaB.ok (.o zaD.ok (.o zcn.ok (.o zas.ok (.o zb4.ok (.o zdi.ok .z))))))
end Go.Proofs.YtnkpmjhlkmlmbaaGreatDoor.Eng
