import Derived.Test.YtnkpmjhlkmlmbaaGreatDoorQDeciReadsF1
import Derived.Tactics
import Derived.BigQuiet
import Derived.WalkKit
import Derived.OwnWalk
import Derived.Lib.TrailingZeros
import Derived.Shelf.Lay
import Derived.Ground.NamesProg
import Derived.Shelf.Strings.Search1
import Derived.Shelf.Strconv.Atoi
import Derived.Lib.AtoiErrMem
import Derived.Shelf.Strings.Repeat
import Derived.Shelf.Small.Strs
import Derived.Shelf.Spec.TrailingZeros
import Derived.Shelf.Lays7
import Derived.Shelf.Strings.Builder1
import Derived.BigCall
import Derived.BigRegion
import Derived.RegionCalls
set_option linter.unusedVariables false
set_option linter.unusedSimpArgs false
namespace Go.Proofs.YtnkpmjhlkmlmbaaGreatDoor.Eng
open Go.RowKit Go.Proofs Go
set_option maxRecDepth 100000
def qnN (w : World) : Prop := ∀ j, j < 32 → w.cell? ⟨5, j, none⟩ = some (.int .u8 (Lib.deBruijn32tab.getD j 0))
theorem qsu (x k idx : Nat) (w : World) (hx0 : ((x : Int) == 0) = false)
  (key : bits BinOp.and IntKind.u32 (x : Int) (-(x : Int) % 4294967296) * 125613361 % 4294967296 / 134217728 = (idx : Int))
  (hi : idx < 32) (hk : k < 32) (hcell : w.cell? ⟨5, idx, none⟩ = some (.int .u8 k)) :
  Calls Tryz.prog 218 #[.int .u32 x] w fun e w' => e = .returned (.int .i64 k) ∧ w' = w := by
 go_enter Tryz.func218, Tryz.ntmps218
 go_wp2_with (simp only [key])
 go_ret
 exact ⟨rfl, rfl⟩
theorem qsv (w : World) : Calls Tryz.prog 218 #[.int .u32 0] w fun e w' => e = .returned (.int .i64 32) ∧ w' = w := by
 go_enter Tryz.func218, Tryz.ntmps218
 go_wp2
 go_ret
 exact ⟨rfl, rfl⟩
theorem qsw (a b : Nat) (ha : a < 4294967296) (hb : b < 4294967296) : bits .and .u32 (a : Int) (b : Int) = ((a &&& b : Nat) : Int) := by
 have hx : a &&& b < 2 ^ 32 := Nat.and_lt_two_pow _ (by omega)
 have h1 : (BitVec.ofInt 32 (a : Int)).toNat = a := by
  rw [BitVec.ofInt_natCast, BitVec.toNat_ofNat]; exact Nat.mod_eq_of_lt (by omega)
 have h2 : (BitVec.ofInt 32 (b : Int)).toNat = b := by
  rw [BitVec.ofInt_natCast, BitVec.toNat_ofNat]; exact Nat.mod_eq_of_lt (by omega)
 show IntKind.u32.wrap ((BitVec.ofInt 32 (a : Int) &&& BitVec.ofInt 32 (b : Int)).toNat : Int) = _
 have h3 : ∀ n : Int, IntKind.u32.wrap n = n % 4294967296 := fun n => by simp [IntKind.wrap, IntKind.signed, IntKind.bits]
 rw [BitVec.toNat_and, h1, h2, h3]
 omega
theorem qsx (x a : Nat) (hx : x < 4294967296) (hx0 : x ≠ 0) (hlow : x &&& (4294967296 - x) = a) :
  bits BinOp.and IntKind.u32 (x : Int) (-(x : Int) % 4294967296) * 125613361 % 4294967296 / 134217728 = ((a * 125613361 % 4294967296 / 134217728 : Nat) : Int) := by
 have e1 : -(x : Int) % 4294967296 = ((4294967296 - x : Nat) : Int) := by omega
 rw [e1, qsw x _ hx (by omega), hlow]
 omega
theorem qsy (a0 r : Int) (w : World) (hT : qnN w) (h : qb5.f a0 = some r) :
  Calls Tryz.prog 218 #[.int .u32 a0] w fun e w' => e = .returned (.int .i64 r) ∧ w' = w := by
 unfold qb5.f at h
 split at h
 case isFalse => cases h
 rename_i hx
 obtain ⟨x, rfl⟩ := Int.eq_ofNat_of_zero_le hx.1
 obtain rfl := Option.some.inj h
 rw [Int.toNat_natCast]
 by_cases hx0 : x = 0
 ·subst hx0
  exact qsv w
 ·obtain ⟨hlow, hk⟩ := Lib.lowest_bit 32 x hx0 (by omega)
  obtain ⟨hi, htab⟩ := Lib.deBruijn32_at _ hk
  have hcell := hT _ hi
  rw [htab] at hcell
  exact qsu x _ _ w (by simp; omega) (qsx x _ (by omega) hx0 hlow) hi hk hcell
theorem qb5.ok : ∀ k, qM Tryz.prog qbq 218 (qb5.F k) := by
 intro k
 refine ⟨⟨Tryz.f218, qco Tryz.f218, Tryz.func218, by kernel_rfl, by kernel_rfl⟩, rfl, rfl, fun M φ w args ls r hgl hc hr => ?_⟩
 have hlf := qbV hr
 obtain ⟨x, rfl⟩ : ∃ x, ls = [.int .u32 x] := by
  clear hc hr
  obtain ⟨y, rfl⟩ := List.length_eq_one_iff.1 (qcs hlf).1
  simp only [qb5.F, qu, q6, qg, qV, Bool.and_true, List.append_nil] at hlf
  cases y <;> first | (cases hlf; done) | exact ⟨_, by rw [← qW hlf]⟩
 have hr : qb5.f x = some r := hr
 have ha : args = #[.int .u32 x] := by
  have hs := hc.size
  have hs : args.size = 1 := hs
  have h1 := (hc.args 0 args[0] (by simp [hs])).1
  apply Array.ext
  ·simp [hs]
  ·intro i h1' h2'
   have : i = 0 := by simp at h2'; omega
   subst this
   exact h1
 have hT : qnN w := fun j hj => hc.rel.holds 5 j _ (hgl 5 j _ (by unfold qbq; rw [if_pos ⟨rfl, hj⟩]))
 subst ha
 refine (qsy x r w hT hr).mono fun e w' h => ⟨_, h.1, rfl, M, φ, ⟨rfl, qdC _⟩, ?_, ?_, qy.refl φ⟩
 ·rw [h.2]; exact hc.rel
 ·rw [h.2]; exact Stp.refl M φ _ w
end Go.Proofs.YtnkpmjhlkmlmbaaGreatDoor.Eng
namespace Go.Proofs
open Go.Shelf
shelf_lay Lays.n217 Nm 217 at Tryz as Tryz.layIndexByte
shelf_lay Lays.n172 Nm 172 at Tryz as Tryz.layAtoi
shelf_lay Lays.n105 Nm 105 at Tryz as Tryz.layRepeat
theorem Tryz.extraRepeat : Builder.Extra Tryz.prog Tryz.layRepeat_ren where
 sizeBuilder := by kernel_rfl
 liesBuilder := by kernel_rfl
 t5 := Tryz.layRepeat.t5
 a5 := Tryz.layRepeat.a5
 z5 := Tryz.layRepeat.z5
 v5 := Tryz.layRepeat.v5
 infoByte := by kernel_rfl
 cellsByte := by kernel_rfl
 sizeByte := by kernel_rfl
 neB5 := by decide
shelf_lay Lays.n106 Nm 106 at Tryz as Tryz.layCompare
shelf_lay Lays7.n27 Nm7 27 at Tryz as Tryz.layTz
end Go.Proofs
namespace Go.Proofs.YtnkpmjhlkmlmbaaGreatDoor.Eng
open Go.RowKit Go.Proofs
set_option maxRecDepth 100000
theorem qsz (s : ByteArray) : qgb [.str s] := fun k n hm => by cases List.mem_singleton.1 hm
theorem qkH (n : Int) : qgb [.int .i64 n] := fun k m hm => by cases List.mem_singleton.1 hm; exact qdC _
theorem qsA {ls : List V} (h : qg [.s, .i .i64] ls = true) : ∃ s c, ls = [.str s, .int .i64 c] := by
 match ls, h with
 | [a, b], h =>
  simp only [qg, Bool.and_true, Bool.and_eq_true] at h
  obtain ⟨h1, h2⟩ := h
  cases a <;> first | (cases h1; done) | skip
  cases b <;> first | (cases h2; done) | skip
  rw [← qW h2]
  exact ⟨_, _, rfl⟩
 | [_], h => simp [qg] at h
 | [], h => cases h
 | _ :: _ :: _ :: _, h => simp [qg] at h
theorem qsB {ls : List V} (h : qg [.s, .i .u8] ls = true) : ∃ s c, ls = [.str s, .int .u8 c] := by
 match ls, h with
 | [a, b], h =>
  simp only [qg, Bool.and_true, Bool.and_eq_true] at h
  obtain ⟨h1, h2⟩ := h
  cases a <;> first | (cases h1; done) | skip
  cases b <;> first | (cases h2; done) | skip
  rw [← qW h2]
  exact ⟨_, _, rfl⟩
 | [_], h => simp [qg] at h
 | [], h => cases h
 | _ :: _ :: _ :: _, h => simp [qg] at h
theorem qsC {k : IntKind} {ls : List V} (h : qg [.i k] ls = true) : ∃ c, ls = [.int k c] := by
 match ls, h with
 | [a], h =>
  simp only [qg, Bool.and_true] at h
  cases a <;> first | (cases h; done) | skip
  rw [← qW h]
  exact ⟨_, rfl⟩
 | [], h => cases h
 | _ :: _ :: _, h => simp [qg] at h
theorem qsD {ls : List V} (h : qg [.s, .s] ls = true) : ∃ s c, ls = [.str s, .str c] := by
 match ls, h with
 | [a, b], h =>
  simp only [qg, Bool.and_true, Bool.and_eq_true] at h
  obtain ⟨h1, h2⟩ := h
  cases a <;> first | (cases h1; done) | skip
  cases b <;> first | (cases h2; done) | skip
  exact ⟨_, _, rfl⟩
 | [_], h => simp [qg] at h
 | [], h => cases h
 | _ :: _ :: _ :: _, h => simp [qg] at h
theorem qsE {ls : List V} (h : qg [.s] ls = true) : ∃ s, ls = [.str s] := by
 match ls, h with
 | [a], h =>
  simp only [qg, Bool.and_true] at h
  cases a <;> first | (cases h; done) | skip
  exact ⟨_, rfl⟩
 | [], h => cases h
 | _ :: _ :: _, h => simp [qg] at h
theorem qdj.ok : ∀ k, qM Tryz.prog qbq 158 (qdj.F k) := fun k => qM.lib ⟨Tryz.f158, qco Tryz.f158, Tryz.func158, by kernel_rfl, by kernel_rfl⟩ rfl rfl rfl (fun r => rfl) fun w ls r hw hlf hok hr => by
 obtain ⟨s, c, rfl⟩ := qsB hlf
 have hr : qdj.f s c = some r := hr
 obtain rfl := Option.some.inj hr
 refine ⟨qkH _, ?_⟩
 exact (Any.stringslite_IndexByte Tryz.layIndexByte s c w).mono fun e w' ⟨he, hb⟩ => ⟨he, hb ▸ qD.refl w⟩
theorem qcu.ok : ∀ k, qM Tryz.prog qbq 101 (qcu.F k) := fun k => qM.lib ⟨Tryz.f101, qco Tryz.f101, Tryz.func101, by kernel_rfl, by kernel_rfl⟩ rfl rfl rfl (fun r => rfl) fun w ls r hw hlf hok hr => by
 obtain ⟨s, rfl⟩ := qsE hlf
 have hr : qcu.f s = some r := hr
 unfold qcu.f at hr
 split at hr
 case isFalse => cases hr
 rename_i h
 have hi : qgb ((qcu.F 0).S.un r) := by
  intro k n hm
  rcases List.mem_cons.1 hm with hm | hm
  ·cases hm; exact qdC _
  ·cases List.mem_singleton.1 hm
 refine ⟨hi, ?_⟩
 exact (Any.strconv_Atoi Tryz.layAtoi s r h hr w).mono fun e w' ⟨he, hb⟩ => ⟨he, by obtain ⟨t, rfl⟩ := hb; exact qkG (Lib.bytesWorld_below w _ t)⟩
theorem qbF.ok : ∀ k, qM Tryz.prog qbq 124 (qbF.F k) := fun k => qM.lib ⟨Tryz.f124, qco Tryz.f124, Tryz.func124, by kernel_rfl, by kernel_rfl⟩ rfl rfl rfl (fun r => rfl) fun w ls r hw hlf hok hr => by
 obtain ⟨s, c, rfl⟩ := qsA hlf
 have hr : qbF.f s c = some r := hr
 unfold qbF.f at hr
 split at hr
 case isFalse => cases hr
 rename_i h
 obtain rfl := Option.some.inj hr
 refine ⟨qsz _, ?_⟩
 have := Any.strings_Repeat Tryz.layRepeat Tryz.extraRepeat s c.toNat w (by omega) h.2.1
 rw [Int.toNat_of_nonneg h.1] at this
 exact this.mono fun e w' ⟨he, hb⟩ => ⟨he, qkG hb⟩
theorem qec.ok : ∀ k, qM Tryz.prog qbq 120 (qec.F k) := fun k => qM.lib ⟨Tryz.f120, qco Tryz.f120, Tryz.func120, by kernel_rfl, by kernel_rfl⟩ rfl rfl rfl (fun r => rfl) fun w ls r hw hlf hok hr => by
 obtain ⟨s, c, rfl⟩ := qsD hlf
 have hr : qec.f s c = some r := hr
 obtain rfl := Option.some.inj hr
 refine ⟨qkH _, ?_⟩
 exact (Any.strings_Compare Tryz.layCompare s c w).mono fun e w' ⟨he, hb⟩ => ⟨he, hb ▸ qD.refl w⟩
theorem qdJ.ok : ∀ k, qM Tryz.prog qbq 272 (qdJ.F k) := fun k => qM.lib ⟨Tryz.f272, qco Tryz.f272, Tryz.func272, by kernel_rfl, by kernel_rfl⟩ rfl rfl rfl (fun r => rfl) fun w ls r hw hlf hok hr => by
 obtain ⟨c, rfl⟩ := qsC hlf
 have hr : qdJ.f c = some r := hr
 unfold qdJ.f at hr
 split at hr
 case isFalse => cases hr
 rename_i h
 obtain rfl := Option.some.inj hr
 obtain ⟨x, rfl⟩ := Int.eq_ofNat_of_zero_le h.1
 refine ⟨qkH _, ?_⟩
 refine (Any7.bits_TrailingZeros Tryz.layTz x (by omega) w fun _ => ?_).mono fun e w' ⟨he, hb⟩ => ⟨he, hb ▸ qD.refl w⟩
 intro j hj
 have hl : Lib.deBruijn64tab.length = 64 := rfl
 rw [Int.toNat_natCast] at *
 exact hw 8 j _ (by unfold qbq; repeat (first | rw [if_pos ⟨rfl, by omega⟩] | rw [if_neg (by omega)]))
theorem qsF : TOk Tryz.prog TT := qso (by kernel_rfl)
theorem qsG : Tryz.prog.follows .mixedOrders = true := by kernel_rfl
abbrev Fo (n : Nat) (S : Sig) (f : Nat → Fn (qu S.ps) (Option S.R)) : Prop := ∀ k, qM Tryz.prog qbq n ⟨S, f k⟩
theorem fo {n : Nat} {ps rs : List Kx} {f : Nat → Fn (qu ps) (Option (sg ps rs).R)} {G : Nat → List (Nat × List Fun)} {fn : Func}
  (nt : Nat) (hf : Tryz.prog.funcs[n]? = some fn) (gs : GP Tryz.prog qbq G) (ds : List (List Bool) := []) (H : Nat → List (qcm (sg ps rs).R) := fun _ => []) (frz : List Nat := [])
  (hname : (fn.name == "runtime.NumGoroutine") = false := by kernel_rfl) (hbody : fn.body = some (qco fn) := by kernel_rfl) (hnt : nt = fn.ntmps := by kernel_rfl) (hr : rs.all qbp = true := by kernel_rfl)
  (hck : qf8 (qcP (sg ps rs)) (zc ds (H 0)) = true := by kernel_rfl)
  (h0 : qf9 (H 0) := by ((repeat (refine ⟨by ((repeat (intro _)); show _ = _; kernel_rfl), ?_⟩)); trivial))
  (hs : ∀ k, qga (mkC TT qbq G nt (zc ds (H 0)) frz k) (sg ps rs) (qco fn) fn.results.toList (qcn (H k)) (zc ds (H 0)) (H (k + 1)) := by (intro k; (repeat (refine ⟨rfl, by ((repeat (intro _)); show _ = _; kernel_rfl), ?_⟩)); trivial))
  (he : ∀ k, qaX (qu ps) (fun ls y => qic (mkC TT qbq G nt (zc ds (H 0)) frz k) (sg ps rs) (qco fn) fn.results.toList (qcn (H k)) ls = y) (f k) := by ((repeat (intro _)); show _ = _; kernel_rfl)) : Fo n (sg ps rs) f :=
 qM.mk' qsF qsG nt hf gs ds H frz hname hbody hnt hr hck h0 hs he
theorem qfy.ok : Fo 154 (sg [.lf (.i .u8)] [.ag [.i .i64, .i .i64, .i .i64], .lf (.b)]) fun _ => qfy.f := fo 12 Tryz.func154 .z
theorem qaY.ok : Fo 164 (sg [.lf (.is .u32)] [.lf (.b)]) fun _ => qaY.f := fo 20 Tryz.func164 .z
theorem qhc.ok : Fo 208 (sg [.lf (.i .i64)] [.lf (.b)]) fun _ => qhc.f := fo 9 Tryz.func208 .z
theorem qcR.ok : Fo 155 (sg [.ag [.b, .is .u32, .i .i64]] [.lf (.b)]) fun _ => qcR.f := fo 30 Tryz.func155 (.o qaY.ok (.o qhc.ok .z))
theorem qae.ok : Fo 94 (sg [.lf (.i .u8), .lf (.i .u8), .lf (.rw [.b, .is .u32, .i .i64])] [.ag [.i .i64, .i .i64, .i .i64], .lf (.i .i64)]) qae.f := fo 39 Tryz.func94 (.o qfy.ok (.o qcR.ok .z)) [[tt, tt, tt, tt, ff, tt, ff]] fun k => [⟨[(6, .bx [.i .i64, .i .i64, .i .i64]), (8, .bx [.i .i64, .i .i64, .i .i64]), (27, .lf (.rw [.b, .is .u32, .i .i64])), (28, .lf (.i .i64)), (29, .lf (.i .i64))], qae.l0 k⟩]
theorem qhd.ok : Fo 209 (sg [.lf (.i .u8)] [.ag [.i .i64, .i .i64, .i .u64], .lf (.b)]) fun _ => qhd.f := fo 12 Tryz.func209 .z
theorem qam.ok : Fo 157 (sg [.lf (.i .u8), .lf (.is .u64)] [.ag [.i .i64, .i .i64, .i .u64], .lf (.i .i64)]) qam.f := fo 35 Tryz.func157 (.o qhd.ok .z) [[tt, tt, tt, ff, tt, ff]] fun k => [⟨[(4, .bx [.i .i64, .i .i64, .i .u64]), (6, .bx [.i .i64, .i .i64, .i .u64]), (18, .lf (.is .u64)), (19, .lf (.i .i64)), (20, .lf (.i .i64))], qam.l0 k⟩]
theorem qcv.ok : Fo 99 (sg [.ag [.i .i64, .i .i64, .i .u64]] [.lf (.i .u64)]) fun _ => qcv.f := fo 9 Tryz.func99 .z
theorem qgc.ok : Fo 156 (sg [.ag [.i .i64, .i .i64, .i .u64]] [.lf (.i .u64)]) fun _ => qgc.f := fo 6 Tryz.func156 (.o qcv.ok .z)
theorem qhe.ok : Fo 96 (sg [.lf (.i .u8), .lf (.b), .lf (.fn 156)] [.lf (.i .u64), .lf (.i .i64)]) qhe.f := fo 28 Tryz.func96 (.o qgc.ok (.o qam.ok .z))
theorem qgd.ok : Fo 95 (sg [.lf (.i .u8), .lf (.b)] [.lf (.i .u64), .lf (.i .i64)]) qgd.f := fo 11 Tryz.func95 (.o qhe.ok .z)
theorem qhf.ok : Fo 96 (sg [.lf (.i .u8), .lf (.b), .lf (.fn 99)] [.lf (.i .u64), .lf (.i .i64)]) qhf.f := fo 28 Tryz.func96 (.o qcv.ok (.o qam.ok .z))
theorem qey.ok : Fo 44 (sg [.lf (.i .u8), .lf (.b)] [.lf (.i .u64), .lf (.i .i64)]) qey.f := fo 11 Tryz.func44 (.o qhf.ok .z)
theorem qaZ.ok : Fo 41 (sg [.lf (.i .u8), .lf (.i .u8), .lf (.b)] [.lf (.i .u64), .lf (.i .i64)]) qaZ.f := fo 46 Tryz.func41 (.o qey.ok (.o qae.ok (.o qgd.ok .z))) [[tt, tt, ff, tt]] fun k => [⟨[(0, .lf (.i .u8)), (2, .lf (.b)), (35, .lf (.b))], qaZ.j1 k⟩]
theorem qhg.ok : Fo 97 (sg [.ag [.i .i64, .i .i64, .i .u64]] [.lf (.i .u64)]) fun _ => qhg.f := fo 10 Tryz.func97 (.o qcv.ok .z)
theorem qhh.ok : Fo 96 (sg [.lf (.i .u8), .lf (.b), .lf (.fn 97)] [.lf (.i .u64), .lf (.i .i64)]) qhh.f := fo 28 Tryz.func96 (.o qhg.ok (.o qam.ok .z))
theorem qge.ok : Fo 42 (sg [.lf (.i .u8)] [.lf (.i .u64), .lf (.i .i64)]) qge.f := fo 8 Tryz.func42 (.o qhh.ok .z)
theorem qez.ok : Fo 98 (sg [.lf (.s), .lf (.i .u8)] [.lf (.i .i64)]) fun _ => qez.f := fo 8 Tryz.func98 (.o qdj.ok .z)
theorem qaO.ok : Fo 43 (sg [.bb [.s, .i .i64], .lf (.s)] [.lf (.i .u8), .lf (.b)]) qaO.f := fo 47 Tryz.func43 (.o qez.ok .z) [[tt, ff, tt]] fun k => [⟨[(0, .bb [.s, .i .i64]), (29, .lf (.b))], qaO.j0 k⟩]
theorem qbW.ok : Fo 100 (sg [.bb [.s, .i .i64]] [.lf (.s)]) qbW.f := fo 59 Tryz.func100 .z [[tt, tt, ff, ff]] fun k => [⟨[(0, .bb [.s, .i .i64]), (3, .lf (.i .i64))], qbW.l0 k⟩]
theorem qaj.ok : Fo 45 (sg [.bb [.s, .i .i64]] [.lf (.s), .lf (.i .i64), .lf (.b)]) qaj.f := fo 81 Tryz.func45 (.o qaO.ok (.o qbW.ok (.o qcu.ok .z))) [[tt, tt, tt, tt], [tt, tt, tt, tt, tt]] fun k => [⟨[(0, .bb [.s, .i .i64]), (5, .lf (.s)), (6, .lf (.i .i64))], qaj.j2 k⟩, ⟨[(0, .bb [.s, .i .i64]), (5, .lf (.s)), (6, .lf (.i .i64))], qaj.j6 k⟩]
theorem qcS.ok : Fo 102 (sg [.lf (.s), .lf (.i .u8)] [.lf (.s)]) qcS.f := fo 17 Tryz.func102 .z [[tt, ff, ff]] fun k => [⟨[(0, .lf (.s)), (1, .lf (.i .u8))], qcS.l0 k⟩]
theorem qdk.ok : Fo 46 (sg [.lf (.s), .lf (.s)] [.lf (.s)]) qdk.f := fo 37 Tryz.func46 (.o qcS.ok .z) [[tt, tt, ff, tt]] fun k => [⟨[(0, .lf (.s)), (1, .lf (.s)), (21, .lf (.b))], qdk.j2 k⟩]
theorem qiO.ok : Fo 106 (sg [.ag [.i .i64, .i .i64, .i .u64]] [.lf (.i .u64)]) fun _ => qiO.f := fo 3 Tryz.func106 .z
theorem qhi.ok : Fo 96 (sg [.lf (.i .u8), .lf (.b), .lf (.fn 106)] [.lf (.i .u64), .lf (.i .i64)]) qhi.f := fo 28 Tryz.func96 (.o qiO.ok (.o qam.ok .z))
theorem qeA.ok : Fo 47 (sg [.lf (.i .u8), .lf (.b)] [.lf (.i .u64), .lf (.i .i64)]) qeA.f := fo 11 Tryz.func47 (.o qhi.ok .z)
theorem qz.ok : Fo 48 (sg [.lf (.s)] [.lf (.is .u32), .lf (.i .i64)]) qz.f := fo 107 Tryz.func48 .z [[tt, tt, ff, tt, ff], [tt, tt, tt, tt, ff, tt, ff], [tt, tt, tt, tt, ff, tt, ff, ff, tt, ff, tt, tt, tt, ff, ff], [tt, tt, tt, tt, ff, tt, ff, ff, tt, ff, tt, tt, tt, tt, ff, tt, ff], [tt, tt, tt, tt, ff, tt, ff, ff, tt, ff, tt, tt], [tt, tt, tt, tt, ff, tt, ff, ff, tt, ff, tt, tt, tt, tt, tt, tt]] fun k => [⟨[(0, .lf (.s)), (25, .lf (.i .i64)), (26, .lf (.i .i64))], qz.l0 k⟩, ⟨[(0, .lf (.s)), (5, .ow .u32), (6, .lf (.i .i64))], qz.l1 k⟩, ⟨[(0, .lf (.s)), (5, .ow .u32), (6, .lf (.i .i64)), (7, .lf (.i .i64)), (8, .lf (.i .u64)), (9, .lf (.i .u64))], qz.l2 k⟩, ⟨[(0, .lf (.s)), (5, .ow .u32), (6, .lf (.i .i64)), (8, .lf (.i .u64)), (9, .lf (.i .u64)), (75, .al 5), (76, .lf (.i .i64)), (77, .lf (.i .i64))], qz.l3 k⟩, ⟨[(0, .lf (.s)), (5, .ow .u32), (6, .lf (.i .i64)), (7, .lf (.i .i64))], qz.j7 k⟩, ⟨[(0, .lf (.s)), (5, .ow .u32), (6, .lf (.i .i64))], qz.j10 k⟩]
theorem qbX.ok : Fo 165 (sg [.lf (.is .u32)] [.lf (.i .i64)]) qbX.f := fo 23 Tryz.func165 (.o qaY.ok (.o qb5.ok .z)) [[tt, tt, ff, tt, ff]] fun k => [⟨[(8, .lf (.is .u32)), (9, .lf (.i .i64)), (10, .lf (.i .i64))], qbX.l0 k⟩]
theorem qE.ok : Fo 219 (sg [.ow .u32] [.ow .u32]) qE.f := fo 21 Tryz.func219 .z [[tt, ff, ff]] fun k => [⟨[(0, .ow .u32)], qE.l0 k⟩]
theorem qE.ok1 : Fo 219 (sg [.lf (.is .u32)] [.lf (.is .u32)]) qE.f := fo 21 Tryz.func219 .z [[tt, ff, ff]] fun k => [⟨[(0, .lf (.is .u32))], qE.l0 k⟩]
theorem qbG.ok : Fo 200 (sg [.lf (.is .u32), .lf (.i .i64)] [.lf (.is .u32)]) qbG.f := fo 60 Tryz.func200 (.t qE.ok qE.ok1 .z) [[tt, tt, tt, tt, tt, ff, tt, ff]] fun k => [⟨[(0, .lf (.is .u32)), (5, .lf (.i .i64)), (6, .ow .u32), (23, .lf (.is .u32)), (24, .lf (.i .i64)), (25, .lf (.i .i64))], qbG.l0 k⟩]
theorem qa0.ok : Fo 220 (sg [.lf (.i .u32)] [.lf (.i .i64)]) qa0.f := fo 19 Tryz.func220 .z [[tt, tt], [tt, tt, tt]] fun k => [⟨[(0, .lf (.i .u32)), (2, .lf (.i .i64))], qa0.j0 k⟩, ⟨[(0, .lf (.i .u32)), (2, .lf (.i .i64))], qa0.j1 k⟩]
theorem qbr.ok : Fo 201 (sg [.lf (.is .u32)] [.lf (.i .i64)]) qbr.f := fo 23 Tryz.func201 (.o qaY.ok (.o qa0.ok .z))
theorem qbH.ok : Fo 202 (sg [.lf (.is .u32), .lf (.i .i64)] [.ow .u32]) qbH.f := fo 50 Tryz.func202 (.t qE.ok qE.ok1 .z) [[tt, tt, tt, tt, ff, tt, ff]] fun k => [⟨[(5, .ow .u32), (6, .lf (.i .i64)), (7, .lf (.i .u32)), (24, .lf (.is .u32)), (25, .lf (.i .i64)), (26, .lf (.i .i64))], qbH.l0 k⟩]
theorem qbs.ok : Fo 146 (sg [.lf (.is .u32), .lf (.i .i64)] [.lf (.is .u32), .lf (.b), .lf (.i .i64)]) qbs.f := fo 39 Tryz.func146 (.o qaY.ok (.o qbX.ok (.o qbG.ok (.o qbr.ok (.o qbH.ok .z)))))
theorem qbI.ok : Fo 107 (sg [.lf (.b), .lf (.is .u32), .lf (.i .i64)] [.ag [.b, .is .u32, .i .i64], .lf (.i .i64)]) qbI.f := fo 47 Tryz.func107 (.o qbs.ok (.o qaY.ok (.o qbX.ok .z)))
theorem qcw.ok : Fo 166 (sg [.lf (.i .u64)] [.lf (.is .u32)]) qcw.f := fo 10 Tryz.func166 (.t qE.ok qE.ok1 .z)
theorem q8.ok : Fo 221 (sg [.lf (.i .u64)] [.lf (.i .i64)]) q8.f := fo 25 Tryz.func221 .z [[tt, tt], [tt, tt, tt], [tt, tt, tt, tt]] fun k => [⟨[(0, .lf (.i .u64)), (2, .lf (.i .i64))], q8.j0 k⟩, ⟨[(0, .lf (.i .u64)), (2, .lf (.i .i64))], q8.j1 k⟩, ⟨[(0, .lf (.i .u64)), (2, .lf (.i .i64))], q8.j2 k⟩]
theorem qgf.ok : Fo 167 (sg [.lf (.i .u64)] [.lf (.i .i64)]) qgf.f := fo 8 Tryz.func167 (.o q8.ok .z)
theorem qag.ok : Fo 168 (sg [.lf (.is .u32), .lf (.is .u32)] [.lf (.is .u32)]) qag.f := fo 68 Tryz.func168 (.t qE.ok qE.ok1 .z) [[tt, tt, ff, tt, ff], [tt, tt, ff, tt, ff, ff, tt, tt, ff, ff, tt, tt, ff, tt, ff]] fun k => [⟨[(1, .lf (.is .u32)), (5, .ow .u32), (18, .lf (.is .u32)), (19, .lf (.i .i64)), (20, .lf (.i .i64))], qag.l0 k⟩, ⟨[(1, .lf (.is .u32)), (5, .ow .u32), (6, .lf (.i .i64)), (7, .lf (.i .u32)), (8, .lf (.i .u64)), (18, .lf (.is .u32)), (19, .lf (.i .i64)), (20, .lf (.i .i64)), (25, .lf (.is .u32)), (26, .lf (.i .i64)), (27, .lf (.i .i64))], qag.l1 k⟩]
theorem q9.ok : Fo 108 (sg [.lf (.i .u32), .lf (.i .i64)] [.lf (.is .u32), .lf (.i .i64)]) q9.f := fo 55 Tryz.func108 (.o qcw.ok (.o qgf.ok (.o qag.ok .z))) [[tt, tt, tt, ff, tt, ff], [tt, ff, ff, tt, tt, tt], [tt, tt, tt, ff, tt, ff, ff, tt, ff, ff, tt, tt, tt]] fun k => [⟨[(0, .lf (.i .u32)), (1, .lf (.i .i64)), (6, .lf (.is .u32)), (7, .lf (.i .i64))], q9.l0 k⟩, ⟨[(0, .lf (.i .u32)), (1, .lf (.i .i64)), (11, .lf (.b))], q9.j0 k⟩, ⟨[(0, .lf (.i .u32)), (1, .lf (.i .i64)), (6, .lf (.is .u32)), (7, .lf (.i .i64))], q9.j4 k⟩]
theorem qbY.ok : Fo 169 (sg [.lf (.rw [.b, .is .u32, .i .i64])] [.lf (.b)]) qbY.f := fo 15 Tryz.func169 (.o qcR.ok .z) [[tt, ff, tt, ff]] fun k => [⟨[(5, .lf (.rw [.b, .is .u32, .i .i64])), (6, .lf (.i .i64)), (7, .lf (.i .i64))], qbY.l0 k⟩]
theorem qaP.ok : Fo 204 (sg [.lf (.rw [.is .u32])] [.lf (.b)]) qaP.f := fo 15 Tryz.func204 (.o qaY.ok .z) [[tt, ff, tt, ff]] fun k => [⟨[(5, .lf (.rw [.is .u32])), (6, .lf (.i .i64)), (7, .lf (.i .i64))], qaP.l0 k⟩]
theorem qbZ.ok : Fo 205 (sg [.ow .u32] [.ow .u32, .lf (.i .i64)]) fun _ => qbZ.f := fo 8 Tryz.func205 .z
theorem qbZ.ok1 : Fo 205 (sg [.lf (.is .u32)] [.lf (.is .u32), .lf (.i .i64)]) fun _ => qbZ.f := fo 8 Tryz.func205 .z
theorem qeB.ok : Fo 148 (sg [.lf (.is .u32), .lf (.is .u32)] [.lf (.is .u32), .lf (.i .i64)]) qeB.f := fo 34 Tryz.func148 (.o qag.ok (.o qaP.ok (.t qbZ.ok qbZ.ok1 .z)))
theorem qfz.ok : Fo 109 (sg [.ag [.b, .is .u32, .i .i64], .ag [.b, .is .u32, .i .i64]] [.ag [.b, .is .u32, .i .i64], .lf (.i .i64)]) qfz.f := fo 40 Tryz.func109 (.o qbI.ok (.o qeB.ok (.o qbY.ok .z)))
theorem qb6.ok : Fo 170 (sg [.ag [.b, .is .u32, .i .i64]] [.lf (.i .i64)]) qb6.f := fo 16 Tryz.func170 (.o qcR.ok .z) [[tt, ff, ff, tt]] fun k => [⟨[(1, .bx [.b, .is .u32, .i .i64]), (3, .lf (.b))], qb6.j0 k⟩]
theorem qbg.ok : Fo 222 (sg [.lf (.is .u32)] [.lf (.i .u64), .lf (.b)]) qbg.f := fo 31 Tryz.func222 (.o qaY.ok .z) [[tt, tt, tt, ff, tt, ff]] fun k => [⟨[(4, .lf (.i .u64)), (15, .lf (.is .u32)), (16, .lf (.i .i64)), (17, .lf (.i .i64))], qbg.l0 k⟩]
theorem qeC.ok : Fo 171 (sg [.ag [.b, .is .u32, .i .i64]] [.ag [.i .u64, .i .i64, .b]]) qeC.f := fo 33 Tryz.func171 (.o qbs.ok (.o qbr.ok (.o qbg.ok .z)))
theorem qfA.ok : Fo 250 (sg [.lf (.i .u8), .lf (.b), .lf (.b), .lf (.b), .lf (.b)] [.lf (.b)]) fun _ => qfA.f := fo 42 Tryz.func250 .z
theorem qgg.ok : Fo 249 (sg [.lf (.b)] [.lf (.i .u64)]) fun _ => qgg.f := fo 4 Tryz.func249 .z
theorem qa1.ok : Fo 223 (sg [.ag [.i .u64, .i .i64, .b], .lf (.i .u8), .lf (.b), .lf (.i .i64)] [.lf (.i .u64), .lf (.b)]) qa1.f := fo 70 Tryz.func223 (.o qgg.ok (.o qfA.ok .z)) [[tt, tt, tt, tt, tt], [tt, tt, tt, tt, tt, tt]] fun k => [⟨[(1, .lf (.i .u8)), (2, .lf (.b)), (4, .bx [.i .u64, .i .i64, .b]), (10, .lf (.i .i64)), (11, .lf (.i .u64)), (12, .lf (.b)), (13, .lf (.b))], qa1.j1 k⟩, ⟨[(1, .lf (.i .u8)), (2, .lf (.b)), (11, .lf (.i .u64)), (12, .lf (.b)), (13, .lf (.b))], qa1.j2 k⟩]
theorem qcT.ok : Fo 199 (sg [.ag [.i .i64, .i .i64, .i .u64]] [.lf (.i .i64)]) fun _ => qcT.f := fo 10 Tryz.func199 .z
theorem qfB.ok : Fo 251 (sg [.ag [.i .i64, .i .i64, .i .u64], .ag [.b, .i .i64, .i .u64]] [.lf (.i .u64)]) fun _ => qfB.f := fo 22 Tryz.func251 .z
theorem qed.ok : Fo 224 (sg [.lf (.i .u8), .ag [.b, .is .u32, .i .i64]] [.lf (.i .u64), .lf (.i .i64)]) qed.f := fo 95 Tryz.func224 (.o qcR.ok (.o qam.ok (.o qcT.ok (.o q8.ok (.o qbg.ok (.o qfB.ok .z))))))
theorem qb7.ok : Fo 172 (sg [.ag [.i .u64, .i .i64, .b], .lf (.i .u8), .ag [.i .i64, .i .i64, .i .i64], .lf (.i .u8), .lf (.b)] [.lf (.i .u64), .lf (.i .u8)]) qb7.f := fo 106 Tryz.func172 (.o qaZ.ok (.o qeA.ok (.o qbI.ok (.o qcw.ok (.o q8.ok (.o qa1.ok (.o qed.ok .z))))))) [[tt, tt, tt, tt, tt, tt, tt]] fun k => [⟨[(3, .lf (.i .u8)), (4, .lf (.b)), (5, .bx [.i .u64, .i .i64, .b]), (7, .bx [.i .i64, .i .i64, .i .i64]), (14, .lf (.b)), (19, .lf (.i .u64))], qb7.j1 k⟩]
theorem qfC.ok : Fo 110 (sg [.lf (.i .u8), .lf (.i .u8), .ag [.b, .is .u32, .i .i64]] [.lf (.i .u64), .lf (.i .u8), .lf (.i .i64)]) qfC.f := fo 40 Tryz.func110 (.o qae.ok (.o qb6.ok (.o qeC.ok (.o qb7.ok .z))))
theorem qhj.ok : Fo 225 (sg [.lf (.i .i64)] [.lf (.i .i64)]) fun _ => qhj.f := fo 9 Tryz.func225 .z
theorem qbt.ok : Fo 255 (sg [.lf (.is .u32), .lf (.is .u32)] [.lf (.i .i64)]) qbt.f := fo 43 Tryz.func255 .z [[tt, tt, ff, tt, ff]] fun k => [⟨[(0, .lf (.is .u32)), (1, .lf (.is .u32)), (5, .lf (.i .i64))], qbt.l0 k⟩]
theorem qgh.ok : Fo 240 (sg [.lf (.i .u32), .lf (.i .u32), .lf (.i .u32)] [.lf (.i .u32), .lf (.i .u32)]) fun _ => qgh.f := fo 33 Tryz.func240 .z
theorem qb0.ok : Fo 203 (sg [.lf (.is .u32), .lf (.i .u32)] [.lf (.is .u32), .lf (.i .u32)]) qb0.f := fo 35 Tryz.func203 (.t qE.ok qE.ok1 (.o qgh.ok .z)) [[tt, tt, tt, ff, tt, ff]] fun k => [⟨[(0, .lf (.is .u32)), (1, .lf (.i .u32)), (6, .ow .u32), (7, .lf (.i .u32)), (8, .lf (.i .i64))], qb0.l0 k⟩]
theorem qgi.ok : Fo 267 (sg [.lf (.i .u32)] [.lf (.i .i64)]) qgi.f := fo 6 Tryz.func267 (.o qa0.ok .z)
theorem qee.ok : Fo 273 (sg [.lf (.i .u32), .lf (.i .u32), .lf (.i .u32)] [.lf (.i .u32), .lf (.i .u32)]) fun _ => qee.f := fo 25 Tryz.func273 .z
theorem qeD.ok : Fo 266 (sg [.lf (.i .u32), .lf (.i .u32), .lf (.i .u32)] [.lf (.i .u32), .lf (.i .u32)]) fun _ => qeD.f := fo 22 Tryz.func266 .z
theorem qZ.ok : Fo 268 (sg [.bo .u32, .lf (.is .u32)] [.lf (.i .u32)]) qZ.f := fo 160 Tryz.func268 (.o qeD.ok (.o qee.ok .z)) [[tt, tt, tt, tt, ff, ff], [tt, tt, tt, tt, tt, tt, ff, tt, ff], [tt, tt, tt, tt, tt, tt, tt, tt, tt, tt, ff, tt, ff]] fun k => [⟨[(0, .bo .u32), (1, .lf (.is .u32)), (5, .lf (.i .i64)), (7, .lf (.i .u64)), (8, .lf (.i .u64))], qZ.l0 k⟩, ⟨[(0, .bo .u32), (1, .lf (.is .u32)), (5, .lf (.i .i64)), (7, .lf (.i .u64)), (9, .lf (.i .u32)), (10, .lf (.i .u64)), (81, .lf (.is .u32)), (82, .lf (.i .i64)), (83, .lf (.i .i64))], qZ.l1 k⟩, ⟨[(0, .bo .u32), (5, .lf (.i .i64)), (7, .lf (.i .u64)), (13, .lf (.i .u32)), (129, .lf (.is .u32)), (130, .lf (.i .i64)), (131, .lf (.i .i64))], qZ.l2 k⟩]
theorem qaQ.ok : Fo 256 (sg [.lf (.is .u32), .lf (.is .u32)] [.lf (.is .u32), .lf (.is .u32)]) qaQ.f := fo 68 Tryz.func256 (.o qbG.ok (.o qbH.ok (.t qE.ok qE.ok1 (.o qgi.ok (.o qZ.ok .z))))) [[tt, tt, tt, tt, ff, ff], [tt, tt, tt, tt, tt, tt, tt, ff, tt, ff]] fun k => [⟨[(0, .lf (.is .u32)), (6, .lf (.i .i64)), (7, .ow .u32), (8, .ow .u32)], qaQ.l0 k⟩, ⟨[(6, .lf (.i .i64)), (7, .ow .u32), (8, .ow .u32), (9, .lf (.i .i64)), (10, .ow .u32), (11, .lf (.i .i64))], qaQ.l1 k⟩]
theorem qeE.ok : Fo 227 (sg [.lf (.is .u32), .lf (.is .u32)] [.lf (.is .u32), .lf (.is .u32), .lf (.i .i64)]) qeE.f := fo 49 Tryz.func227 (.o qb0.ok (.o qaP.ok (.t qE.ok qE.ok1 (.o qbt.ok (.o qaQ.ok .z)))))
theorem qcU.ok : Fo 265 (sg [.lf (.is .u32), .lf (.is .u32)] [.lf (.is .u32)]) qcU.f := fo 41 Tryz.func265 (.t qE.ok qE.ok1 (.o qee.ok .z)) [[tt, tt, tt, ff, tt, ff], [tt, tt, tt, ff, tt, ff, ff, tt, tt, ff, ff, tt, tt, tt]] fun k => [⟨[(0, .lf (.is .u32)), (1, .lf (.is .u32)), (5, .ow .u32), (6, .lf (.i .u32)), (13, .lf (.i .i64)), (14, .lf (.i .i64))], qcU.l0 k⟩, ⟨[(0, .lf (.is .u32)), (1, .lf (.is .u32)), (5, .ow .u32), (6, .lf (.i .u32)), (7, .lf (.i .i64)), (8, .lf (.i .u32)), (13, .lf (.i .i64)), (14, .lf (.i .i64))], qcU.j1 k⟩]
theorem qhk.ok : Fo 252 (sg [.lf (.is .u32), .lf (.is .u32)] [.lf (.is .u32), .lf (.i .i64)]) qhk.f := fo 18 Tryz.func252 (.o qaP.ok (.o qbt.ok (.o qcU.ok .z)))
theorem qiP.ok : Fo 253 (sg [.lf (.is .u32), .lf (.is .u32)] [.lf (.i .i64), .lf (.i .i64)]) qiP.f := fo 14 Tryz.func253 (.o qaP.ok (.o qbt.ok .z))
theorem qbu.ok : Fo 254 (sg [.lf (.is .u32), .lf (.is .u32)] [.lf (.is .u32), .lf (.i .i64)]) qbu.f := fo 63 Tryz.func254 (.o qaP.ok (.t qbZ.ok qbZ.ok1 (.t qE.ok qE.ok1 (.o qeD.ok .z)))) [[tt, tt, tt, tt, tt, ff, tt, ff], [tt, tt, tt], [tt, tt, tt, tt, tt, ff, tt, ff, ff, tt, tt, ff, ff, tt, tt, tt]] fun k => [⟨[(0, .lf (.is .u32)), (1, .lf (.is .u32)), (6, .ow .u32), (7, .lf (.i .u32)), (27, .lf (.i .i64)), (28, .lf (.i .i64))], qbu.l0 k⟩, ⟨[(0, .lf (.is .u32)), (1, .lf (.is .u32))], qbu.j1 k⟩, ⟨[(0, .lf (.is .u32)), (1, .lf (.is .u32)), (6, .ow .u32), (7, .lf (.i .u32)), (8, .lf (.i .i64)), (9, .lf (.i .u32)), (27, .lf (.i .i64)), (28, .lf (.i .i64))], qbu.j3 k⟩]
theorem qef.ok : Fo 228 (sg [.lf (.b), .lf (.is .u32), .lf (.i .i64), .lf (.b), .lf (.i .i64)] [.ag [.b, .is .u32, .i .i64], .lf (.b), .lf (.i .i64)]) qef.f := fo 49 Tryz.func228 (.o qbI.ok (.o qbs.ok (.o qbr.ok .z)))
theorem qbJ.ok : Fo 226 (sg [.ag [.b, .is .u32, .i .i64], .ag [.b, .is .u32, .i .i64], .lf (.i .i64)] [.ag [.b, .is .u32, .i .i64], .lf (.b), .lf (.i .i64)]) qbJ.f := fo 119 Tryz.func226 (.o qbs.ok (.o qcw.ok (.o qbr.ok (.o qeE.ok (.o qef.ok (.o qhk.ok (.o qiP.ok (.o qbu.ok .z)))))))) [[tt, tt, tt, tt, tt, ff, ff], [tt, tt, tt, tt, tt, ff, ff, ff, tt, ff, tt, tt, ff, tt, tt], [tt, tt, tt, tt, tt, ff, ff, ff, tt, ff, tt, tt, tt]] fun k => [⟨[(2, .lf (.i .i64)), (3, .bx [.b, .is .u32, .i .i64]), (4, .bx [.b, .is .u32, .i .i64]), (6, .bx [.b, .is .u32, .i .i64]), (13, .lf (.is .u32)), (14, .lf (.is .u32)), (16, .lf (.i .i64))], qbJ.l0 k⟩, ⟨[(2, .lf (.i .i64)), (3, .bx [.b, .is .u32, .i .i64]), (4, .bx [.b, .is .u32, .i .i64]), (6, .bx [.b, .is .u32, .i .i64]), (13, .lf (.is .u32)), (14, .lf (.is .u32)), (16, .lf (.i .i64)), (17, .lf (.is .u32)), (19, .lf (.i .u64)), (76, .lf (.b))], qbJ.j2 k⟩, ⟨[(2, .lf (.i .i64)), (3, .bx [.b, .is .u32, .i .i64]), (4, .bx [.b, .is .u32, .i .i64]), (6, .bx [.b, .is .u32, .i .i64]), (13, .lf (.is .u32)), (14, .lf (.is .u32)), (16, .lf (.i .i64)), (19, .lf (.i .u64))], qbJ.j3 k⟩]
theorem qdl.ok : Fo 173 (sg [.ag [.b, .is .u32, .i .i64], .ag [.b, .is .u32, .i .i64], .lf (.i .i64)] [.ag [.b, .is .u32, .i .i64], .lf (.b), .lf (.i .i64)]) qdl.f := fo 106 Tryz.func173 (.o qbs.ok (.o qbY.ok (.o qbr.ok (.o qhj.ok (.o qbJ.ok (.o qeE.ok (.o qef.ok .z))))))) [[tt, ff, tt]] fun k => [⟨[(2, .lf (.i .i64)), (3, .bx [.b, .is .u32, .i .i64]), (4, .bx [.b, .is .u32, .i .i64]), (6, .bx [.b, .is .u32, .i .i64]), (24, .lf (.b))], qdl.j0 k⟩]
theorem qcV.ok : Fo 111 (sg [.lf (.i .u8), .lf (.i .u8), .ag [.b, .is .u32, .i .i64], .ag [.b, .is .u32, .i .i64]] [.lf (.i .u64), .lf (.i .u8), .lf (.i .i64)]) qcV.f := fo 85 Tryz.func111 (.o qae.ok (.o qb6.ok (.o qeC.ok (.o qb7.ok (.o qdl.ok .z))))) [[tt, tt, tt, tt, tt, tt, tt]] fun k => [⟨[(0, .lf (.i .u8)), (1, .lf (.i .u8)), (6, .bx [.b, .is .u32, .i .i64]), (7, .bx [.b, .is .u32, .i .i64]), (11, .bx [.i .i64, .i .i64, .i .i64]), (13, .lf (.b)), (17, .bx [.i .u64, .i .i64, .b])], qcV.j1 k⟩]
theorem qeF.ok : Fo 49 (sg [.lf (.i .u8), .lf (.i .u8), .lf (.b), .lf (.is .u32), .lf (.i .i64)] [.lf (.i .u64), .lf (.i .u8), .lf (.i .i64)]) qeF.f := fo 77 Tryz.func49 (.o qbI.ok (.o q9.ok (.o qfz.ok (.o qfC.ok (.o qcV.ok .z)))))
theorem qdm.ok : Fo 14 (sg [.lf (.i .u8), .lf (.i .u8), .lf (.s)] [.lf (.i .u64), .lf (.i .u8), .lf (.i .i64)]) qdm.f := fo 103 Tryz.func14 (.o qaZ.ok (.o qge.ok (.o qaO.ok (.o qey.ok (.o qaj.ok (.o qdk.ok (.o qeA.ok (.o qz.ok (.o qeF.ok .z)))))))))
theorem qeG.ok : Fo 50 (sg [.lf (.i .u8)] [.lf (.b)]) fun _ => qeG.f := fo 9 Tryz.func50 .z
theorem qgj.ok : Fo 51 (sg [.lf (.i .u8)] [.lf (.b)]) fun _ => qgj.f := fo 9 Tryz.func51 .z
theorem qiQ.ok : Fo 52 (sg [.lf (.i .u8), .lf (.i .u64)] [.lf (.i .i64)]) fun _ => qiQ.f := fo 14 Tryz.func52 (.o qeG.ok .z)
theorem qcx.ok : Fo 15 (sg [.lf (.i .u8), .lf (.i .u8), .lf (.is .u64)] [.lf (.i .i64)]) qcx.f := fo 27 Tryz.func15 (.o qeG.ok (.o qgj.ok (.o qiQ.ok .z))) [[tt, tt, tt, ff, tt, ff]] fun k => [⟨[(0, .lf (.i .u8)), (2, .lf (.is .u64)), (7, .lf (.i .i64))], qcx.l0 k⟩]
theorem qgk.ok : Fo 181 (sg [.ag [.i .i64, .i .i64, .i .u64], .lf (.i .u64)] [.lf (.i .u8)]) fun _ => qgk.f := fo 29 Tryz.func181 (.o qcv.ok .z)
theorem qiR.ok : Fo 117 (sg [.lf (.i .u8), .lf (.i .u64)] [.lf (.i .u8), .lf (.i .i64)]) qiR.f := fo 21 Tryz.func117 (.o qam.ok (.o qgk.ok .z))
theorem qgl.ok : Fo 182 (sg [.ag [.i .i64, .i .i64, .i .u64], .lf (.i .u64)] [.ag [.b, .i .i64, .i .u64]]) fun _ => qgl.f := fo 27 Tryz.func182 .z
theorem qiS.ok : Fo 118 (sg [.lf (.i .u8), .lf (.i .u64)] [.ag [.b, .i .i64, .i .u64], .lf (.i .i64)]) qiS.f := fo 22 Tryz.func118 (.o qam.ok (.o qgl.ok .z))
theorem qeH.ok : Fo 57 (sg [.lf (.i .u8), .lf (.i .u64)] [.lf (.s), .lf (.b), .lf (.i .i64)]) qeH.f := fo 39 Tryz.func57 (.o qiR.ok (.o qiS.ok .z)) [[tt, tt, tt, tt, tt, tt]] fun k => [⟨[(9, .bx [.b, .i .i64, .i .u64]), (11, .lf (.s))], qeH.j1 k⟩]
theorem qiT.ok : Fo 198 (sg [.lf (.i .u8), .lf (.i .u64)] [.ag [.i .i64, .i .i64, .i .u64], .lf (.i .i64)]) qiT.f := fo 25 Tryz.func198 (.o qam.ok (.o qgk.ok .z))
theorem qeI.ok : Fo 145 (sg [.lf (.i .u8), .lf (.i .u64)] [.ag [.b, .is .u32, .i .i64], .lf (.i .i64)]) qeI.f := fo 47 Tryz.func145 (.o qbI.ok (.o qcw.ok (.o qgl.ok (.o qiT.ok (.o qcT.ok .z))))) [[tt, tt, tt, tt, tt]] fun k => [⟨[(4, .bx [.b, .is .u32, .i .i64]), (6, .bx [.i .i64, .i .i64, .i .u64]), (8, .bx [.b, .i .i64, .i .u64])], qeI.j1 k⟩]
theorem qaR.ok : Fo 147 (sg [.lf (.is .u32)] [.lf (.s), .lf (.i .i64)]) qaR.f := fo 76 Tryz.func147 (.o qaY.ok (.o qb0.ok .z)) [[tt, tt, tt, tt, ff, ff], [tt, tt, tt, tt, ff, ff, ff, tt, ff, tt, tt, tt, ff], [tt, tt, tt, tt, tt, ff, ff], [tt, tt, tt, tt, tt, tt, ff, tt, ff]] fun k => [⟨[(0, .lf (.is .u32)), (4, .ow .u8)], qaR.l0 k⟩, ⟨[(0, .lf (.is .u32)), (4, .ow .u8), (6, .lf (.i .u32)), (7, .lf (.i .i64))], qaR.l1 k⟩, ⟨[(4, .ow .u8)], qaR.l2 k⟩, ⟨[(4, .ow .u8), (8, .lf (.i .i64)), (9, .lf (.i .i64))], qaR.l3 k⟩]
theorem qeJ.ok : Fo 85 (sg [.lf (.i .u8), .lf (.i .u64)] [.lf (.b), .lf (.s), .lf (.s)]) qeJ.f := fo 93 Tryz.func85 (.o q9.ok (.o qbF.ok (.o qeI.ok (.o qbs.ok (.o qaR.ok (.o qeB.ok .z)))))) [[tt, tt, tt, tt, tt, tt, tt]] fun k => [⟨[(7, .bx [.b, .is .u32, .i .i64]), (18, .lf (.s))], qeJ.j1 k⟩]
theorem qeK.ok : Fo 183 (sg [.lf (.s), .lf (.i .u8)] [.lf (.s)]) qeK.f := fo 23 Tryz.func183 .z [[tt, ff, ff]] fun k => [⟨[(0, .lf (.s)), (1, .lf (.i .u8))], qeK.l0 k⟩]
theorem qdK.ok : Fo 119 (sg [.lf (.s), .lf (.s)] [.lf (.s)]) qdK.f := fo 37 Tryz.func119 (.o qeK.ok .z) [[tt, tt, ff, tt]] fun k => [⟨[(0, .lf (.s)), (1, .lf (.s)), (21, .lf (.b))], qdK.j2 k⟩]
theorem qeL.ok : Fo 58 (sg [.lf (.i .u8), .lf (.i .u64)] [.ag [.b, .s, .i .i64]]) qeL.f := fo 35 Tryz.func58 (.o qeJ.ok (.o qdK.ok .z)) [[tt, tt, tt, tt, ff, ff]] fun k => [⟨[(4, .bx [.b, .s, .i .i64]), (5, .lf (.b)), (8, .lf (.i .i64)), (9, .lf (.s))], qeL.l0 k⟩]
theorem qiU.ok : Fo 61 (sg [.ag [.b, .s, .i .i64], .lf (.i .i64)] [.ag [.b, .s, .i .i64]]) qiU.f := fo 15 Tryz.func61 (.o qdK.ok .z)
theorem qeM.ok : Fo 62 (sg [.ag [.b, .s, .i .i64], .lf (.i .i64)] [.ag [.b, .s, .i .i64]]) qeM.f := fo 45 Tryz.func62 .z [[tt, tt, ff, tt, ff]] fun k => [⟨[(2, .bx [.b, .s, .i .i64]), (4, .bx [.b, .s, .i .i64]), (5, .ow .u8), (6, .lf (.i .i64))], qeM.l0 k⟩]
theorem qiV.ok : Fo 60 (sg [.ag [.b, .s, .i .i64], .lf (.i .u8), .lf (.i .u8)] [.lf (.i .u64), .lf (.i .u8), .lf (.i .i64)]) qiV.f := fo 33 Tryz.func60 (.o qz.ok (.o qeF.ok .z))
theorem qhl.ok : Fo 59 (sg [.ag [.b, .s, .i .i64], .ip [.i .u8], .ip [.i .u64]] [.lf (.b)]) qhl.f := fo 18 Tryz.func59 (.o qiV.ok .z)
theorem qiW.ok : Fo 63 (sg [.ag [.b, .s, .i .i64], .lf (.i .i64)] [.lf (.i .i64)]) fun _ => qiW.f := fo 22 Tryz.func63 (.o qec.ok .z)
theorem qiX.ok : Fo 271 (sg [.lf (.i .i64)] [.lf (.b)]) fun _ => qiX.f := fo 8 Tryz.func271 .z
theorem qaq.ok : Fo 261 (sg [.lf (.is .u8), .lf (.i .u64), .lf (.i .i64), .lf (.b), .lf (.b)] [.lf (.is .u8), .lf (.s)]) qaq.f := fo 102 Tryz.func261 (.o qiX.ok (.o qdJ.ok .z)) [[tt, tt, tt, tt, tt, ff, tt, ff, tt, tt, tt, ff, ff], [tt, tt, tt, tt, tt, ff, tt, tt, tt, ff, ff], [tt, tt, tt, tt, tt], [tt, tt, tt, tt, tt, tt], [tt, tt, tt, tt, tt, tt, tt]] fun k => [⟨[(0, .lf (.is .u8)), (1, .lf (.i .u64)), (3, .lf (.b)), (4, .lf (.b)), (10, .ow .u8), (11, .lf (.s)), (12, .ar .u8), (13, .lf (.i .i64)), (14, .lf (.i .u64)), (15, .lf (.i .u64)), (16, .lf (.i .u64))], qaq.l0 k⟩, ⟨[(0, .lf (.is .u8)), (1, .lf (.i .u64)), (3, .lf (.b)), (4, .lf (.b)), (10, .ow .u8), (11, .lf (.s)), (12, .ar .u8), (13, .lf (.i .i64)), (17, .lf (.i .u64))], qaq.l1 k⟩, ⟨[(0, .lf (.is .u8)), (1, .lf (.i .u64)), (2, .lf (.i .i64)), (3, .lf (.b)), (4, .lf (.b)), (10, .ow .u8), (11, .lf (.s)), (12, .ar .u8), (13, .lf (.i .i64))], qaq.j2 k⟩, ⟨[(0, .lf (.is .u8)), (3, .lf (.b)), (4, .lf (.b)), (10, .ow .u8), (11, .lf (.s)), (12, .ar .u8), (13, .lf (.i .i64))], qaq.j5 k⟩, ⟨[(0, .lf (.is .u8)), (4, .lf (.b)), (10, .ow .u8), (11, .lf (.s)), (12, .ar .u8), (13, .lf (.i .i64))], qaq.j6 k⟩]
theorem qiY.ok : Fo 258 (sg [.lf (.i .i64)] [.lf (.s)]) fun _ => qiY.f := fo 15 Tryz.func258 .z
theorem qiZ.ok : Fo 269 (sg [.lf (.i .i64)] [.lf (.i .i64)]) fun _ => qiZ.f := fo 6 Tryz.func269 .z
theorem qi0.ok : Fo 270 (sg [.lf (.b)] [.lf (.i .i64)]) fun _ => qi0.f := fo 4 Tryz.func270 .z
theorem qi1.ok : Fo 259 (sg [.lf (.i .u64)] [.lf (.i .i64)]) qi1.f := fo 15 Tryz.func259 (.o q8.ok (.o qiZ.ok (.o qi0.ok .z)))
theorem qbK.ok : Fo 260 (sg [.bo .u8, .lf (.i .u64)] []) qbK.f := fo 167 Tryz.func260 .z [[tt, ff, ff], [tt, tt, tt, tt], [tt, tt, tt, tt, tt]] fun k => [⟨[(0, .bo .u8), (1, .lf (.i .u64)), (4, .lf (.i .i64))], qbK.l0 k⟩, ⟨[(0, .bo .u8), (4, .lf (.i .i64)), (12, .lf (.i .u32))], qbK.j1 k⟩, ⟨[(0, .bo .u8), (4, .lf (.i .i64)), (12, .lf (.i .u32))], qbK.j2 k⟩]
theorem qdL.ok : Fo 236 (sg [.lf (.i .i64), .lf (.i .i64)] [.lf (.s)]) qdL.f := fo 54 Tryz.func236 (.o qiY.ok (.o qi1.ok (.o qbK.ok (.o qaq.ok .z)))) [[tt, ff, tt, ff, tt, tt, tt, tt]] fun k => [⟨[(0, .lf (.i .i64)), (5, .ar .u8), (6, .lf (.i .u64))], qdL.j2 k⟩]
theorem qi2.ok : Fo 188 (sg [.lf (.i .i64)] [.lf (.s)]) qi2.f := fo 5 Tryz.func188 (.o qdL.ok .z)
theorem qhm.ok : Fo 123 (sg [.lf (.i .i64)] [.lf (.s)]) qhm.f := fo 5 Tryz.func123 (.o qi2.ok .z)
end Go.Proofs.YtnkpmjhlkmlmbaaGreatDoor.Eng
namespace Go.Proofs
open Go.Shelf Go.RowKit Go.Proofs.YtnkpmjhlkmlmbaaGreatDoor.Eng
set_option maxRecDepth 100000
def Tryz.renWB : Ren := { Tryz.layRepeat_ren with f := fun n => if n = 167 then 121 else Tryz.layRepeat_ren.f n }
theorem Tryz.layWB : Lays.n167 Tryz.prog Tryz.renWB where
 mixed := Tryz.layRepeat.mixed
 f167 := by kernel_rfl
 f240 := by kernel_rfl
 f276 := by kernel_rfl
 t0 := Tryz.layRepeat.t0
 a0 := Tryz.layRepeat.a0
 z0 := Tryz.layRepeat.z0
 v0 := Tryz.layRepeat.v0
 t4 := Tryz.layRepeat.t4
 a4 := Tryz.layRepeat.a4
 z4 := Tryz.layRepeat.z4
 v4 := Tryz.layRepeat.v4
 t5 := Tryz.layRepeat.t5
 a5 := Tryz.layRepeat.a5
 z5 := Tryz.layRepeat.z5
 v5 := Tryz.layRepeat.v5
 t9 := Tryz.layRepeat.t9
 a9 := Tryz.layRepeat.a9
 z9 := Tryz.layRepeat.z9
 v9 := Tryz.layRepeat.v9
 t20 := Tryz.layRepeat.t20
 a20 := Tryz.layRepeat.a20
 z20 := Tryz.layRepeat.z20
 v20 := Tryz.layRepeat.v20
 t37 := Tryz.layRepeat.t37
 a37 := Tryz.layRepeat.a37
 z37 := Tryz.layRepeat.z37
 v37 := Tryz.layRepeat.v37
 t70 := Tryz.layRepeat.t70
 a70 := Tryz.layRepeat.a70
 z70 := Tryz.layRepeat.z70
 v70 := Tryz.layRepeat.v70
 t72 := Tryz.layRepeat.t72
 a72 := Tryz.layRepeat.a72
 z72 := Tryz.layRepeat.z72
 v72 := Tryz.layRepeat.v72
 t75 := Tryz.layRepeat.t75
 a75 := Tryz.layRepeat.a75
 z75 := Tryz.layRepeat.z75
 v75 := Tryz.layRepeat.v75
 t164 := Tryz.layRepeat.t164
 a164 := Tryz.layRepeat.a164
 z164 := Tryz.layRepeat.z164
 v164 := Tryz.layRepeat.v164
theorem Tryz.layWS : Lays.n166 Tryz.prog Tryz.layRepeat_ren := { Tryz.layRepeat with }
theorem Tryz.laySt : Lays.n169 Tryz.prog Tryz.layRepeat_ren := { Tryz.layRepeat with }
theorem Tryz.xWB : Builder.Extra Tryz.prog Tryz.renWB := { Tryz.extraRepeat with }
theorem bc_app (l : List UInt8) (s : ByteArray) : Lib.byteCells l ++ Lib.strCells s = Lib.byteCells (l ++ s.data.toList) := by
 rw [Lib.byteCells_append]; rfl
theorem Tryz.wb (B b : Nat) (l : List UInt8) (w : World) (h : Lib.IsBuilder 176 5 B b (Lib.byteCells l) w) (hlen : l.length ≤ 1000000000) (hBw : B ≤ w.heap.size) :
  Calls Tryz.prog 121 #[.pointer (some ⟨b, 0, none⟩), .int .u8 45] w fun e w' => e = .returned .nilIface ∧ Lib.IsBuilder 176 5 B b (Lib.byteCells (l ++ [45])) w' ∧ Below B w w' :=
 (Any.Builder_WriteByte Tryz.layWB Tryz.xWB B b (Lib.byteCells l) 45 w h (by rw [Lib.byteCells_length]; omega) hBw).mono fun e w' ⟨h1, h2, h3⟩ => ⟨h1, .inr (by rw [Lib.byteCells_append]; exact h2), h3⟩
theorem Tryz.ws (B b : Nat) (l : List UInt8) (s : ByteArray) (w : World) (h : Lib.IsBuilder 176 5 B b (Lib.byteCells l) w) (hlen : l.length ≤ 1000000000) (hs : s.size ≤ 1000000000) (hBw : B ≤ w.heap.size) :
  Calls Tryz.prog 122 #[.pointer (some ⟨b, 0, none⟩), .string s] w fun e w' => e = .returned (.tuple #[.int .i64 s.size, .nilIface]) ∧ Lib.IsBuilder 176 5 B b (Lib.byteCells (l ++ s.data.toList)) w' ∧ Below B w w' :=
 (Any.Builder_WriteString Tryz.layWS Tryz.extraRepeat B b (Lib.byteCells l) s w h (by rw [Lib.byteCells_length]; omega) hBw).mono fun e w' ⟨h1, h2, h3⟩ => ⟨h1, .inr (by rw [← bc_app]; exact h2), h3⟩
theorem Tryz.st (B b : Nat) (l : List UInt8) (w : World) (h : Lib.IsBuilder 176 5 B b (Lib.byteCells l) w) (hBw : B ≤ w.heap.size) :
  Calls Tryz.prog 125 #[.pointer (some ⟨b, 0, none⟩)] w fun e w' => e = .returned (.string ⟨l.toArray⟩) ∧ Below B w w' := Any.Builder_String_any Tryz.laySt Tryz.extraRepeat B b l w h hBw
theorem builder_below {T e : TypeId} {B b : Nat} {bs : List Value} {w w' : World} (h : Lib.IsBuilder T e B b bs w) (hb : Below w.heap.size w w') : Lib.IsBuilder T e B b bs w' := by
 have one : ∀ p, Lib.BuilderAt T e B b p bs w → Lib.BuilderAt T e B b p bs w' := by
  rintro p ⟨h1, v, h2, h3, h4⟩
  refine ⟨h1, v, ?_, ?_, h4⟩
  ·rw [hb.block b (Array.getElem?_eq_some_iff.1 h2).1]; exact h2
  ·obtain ⟨k1, k2 | ⟨g, cap, cur, k2, k3, k4, k5⟩⟩ := h3
   ·exact ⟨k1, .inl k2⟩
   ·exact ⟨k1, .inr ⟨g, cap, cur, k2, k3, by rw [hb.block g (Array.getElem?_eq_some_iff.1 k4).1]; exact k4, k5⟩⟩
 rcases h with h | h
 ·exact .inl (one _ h)
 ·exact .inr (one _ h)
theorem ba_ext {a b : ByteArray} (h : a.data.toList = b.data.toList) : a = b := by
 cases a; cases b
 congr
 exact Array.toList_inj.1 h
theorem ba_len (s : ByteArray) : s.data.toList.length = s.size := by rw [Array.length_toList]; rfl
theorem ba_app (a b : ByteArray) : (a ++ b).data.toList = a.data.toList ++ b.data.toList := by simp
set_option maxHeartbeats 8000000 in
set_option maxRecDepth 1000000 in
theorem Tryz.plain_walk (k : Nat) (neg : Bool) (d : ByteArray) (x : Int) (r : ByteArray) (hr : qbv.f k neg d x = some r) (hx1 : -9223372036854775808 ≤ x) (hx2 : x < 9223372036854775808) (w : World)
 (hI : ∀ it, qhm.f k x = some it → ∀ w1 : World, Below w.heap.size w w1 → Calls Tryz.prog 123 #[.int .i64 x] w1 fun e w' => e = .returned (.string it) ∧ Below w1.heap.size w1 w') :
  Calls Tryz.prog 65 #[.agg #[.bool neg, .string d, .int .i64 x]] w fun e w' => e = .returned (.string r) ∧ Below w.heap.size w w' := by
 unfold qbv.f at hr
 split at hr
 case isFalse => cases hr
 rename_i hb
 obtain ⟨hb1, hb2, hb3⟩ := hb
 have hw : ∀ n : Int, -4000000 ≤ n → n ≤ 4000000 → wrap64 n = n := fun n h1 h2 => by unfold wrap64; omega
 have hRep : ∀ (n : Int) (z : ByteArray) (w1 : World), qbF.f (⟨#[48]⟩ : ByteArray) n = some z → Calls Tryz.prog 124 #[.string ⟨#[48]⟩, .int .i64 n] w1 fun e w' => e = .returned (.string z) ∧ Below w1.heap.size w1 w' := by
  intro n z w1 hz
  unfold qbF.f at hz
  split at hz
  case isFalse => cases hz
  rename_i h
  obtain rfl := Option.some.inj hz
  have := Any.strings_Repeat Tryz.layRepeat Tryz.extraRepeat ⟨#[48]⟩ n.toNat w1 (by omega) h.2.1
  rw [Int.toNat_of_nonneg h.1] at this
  exact this
 have hRs : ∀ (n : Int) (z : ByteArray), qbF.f (⟨#[48]⟩ : ByteArray) n = some z → n ≤ 10000000 → z.size ≤ 10000000 := by
  intro n z hz hn
  unfold qbF.f at hz
  split at hz
  case isFalse => cases hz
  rename_i h
  obtain rfl := Option.some.inj hz
  show (Lib.repeatL [48] n.toNat).toArray.size ≤ _
  rw [List.size_toArray, Lib.repeatL_length]
  simp
  omega
 have hex : ∀ i j, (d.extract i j).size ≤ 1000000 := fun i j => by rw [ByteArray.size_extract]; omega
 go_enter Tryz.func65, Tryz.ntmps65
 cases neg with
 | false =>
  have hB0 : Lib.IsBuilder 176 5 (w.heap.size + 1) (w.heap.size + 1) (Lib.byteCells []) ((w.alloc (Obj.cells #[Value.bool false, Value.string d, Value.int IntKind.i64 x] 96)).alloc (Obj.cells #[Value.pointer none, Value.slice none 0 0] 176)) := by
   have := Lib.fresh_isBuilder 176 5 (w.alloc (Obj.cells #[Value.bool false, Value.string d, Value.int IntKind.i64 x] 96))
   have e : (w.alloc (Obj.cells #[Value.bool false, Value.string d, Value.int IntKind.i64 x] 96)).heap.size = w.heap.size + 1 := by simp
   rw [e] at this
   exact this
  have hbel0 : Below w.heap.size w ((w.alloc (Obj.cells #[Value.bool false, Value.string d, Value.int IntKind.i64 x] 96)).alloc (Obj.cells #[Value.pointer none, Value.slice none 0 0] 176)) := ((Below.refl _ w).alloc (Nat.le_refl _) _).alloc (by simp) _
  have hsz0 : w.heap.size + 2 ≤ ((w.alloc (Obj.cells #[Value.bool false, Value.string d, Value.int IntKind.i64 x] 96)).alloc (Obj.cells #[Value.pointer none, Value.slice none 0 0] 176)).heap.size := by simp
  have hc10 : ((w.alloc (Obj.cells #[Value.bool false, Value.string d, Value.int IntKind.i64 x] 96)).alloc (Obj.cells #[Value.pointer none, Value.slice none 0 0] 176)).cell? ⟨w.heap.size, 1, none⟩ = some (.string d) := by go_simp
  have hc20 : ((w.alloc (Obj.cells #[Value.bool false, Value.string d, Value.int IntKind.i64 x] 96)).alloc (Obj.cells #[Value.pointer none, Value.slice none 0 0] 176)).cell? ⟨w.heap.size, 2, none⟩ = some (.int .i64 x) := by go_simp
  go_wp2_with (fail)
  generalize ((w.alloc (Obj.cells #[Value.bool false, Value.string d, Value.int IntKind.i64 x] 96)).alloc (Obj.cells #[Value.pointer none, Value.slice none 0 0] 176)) = W1 at *
  have hB := hB0
  have hbel := hbel0
  have hsz := hsz0
  have hc1 := hc10
  have hc2 := hc20
  have hB1 : Lib.IsBuilder 176 5 (w.heap.size + 1) (w.heap.size + 1) (Lib.byteCells ([] : List UInt8)) W1.drew := by
   rcases hB with h | h
   ·exact .inl h.drew
   ·exact .inr h.drew
  have hw1 : Below w.heap.size w W1.drew := hbel.drew
  have hs1 : w.heap.size + 2 ≤ W1.drew.heap.size := hsz
  clear hB hbel hsz hB0 hbel0 hsz0 hc10 hc20
  go_region
  all_goals go_wp2_with (fail)
  ·rw [if_pos (by omega)] at hr
   split at hr
   case isFalse => cases hr
   rename_i hd1
   obtain ⟨it, hit, hr⟩ := Option.bind_eq_some_iff.1 hr
   split at hr
   case isFalse => cases hr
   rename_i hits
   obtain rfl := Option.some.inj hr
   refine (Tryz.ws (w.heap.size + 1) (w.heap.size + 1) ([] : List UInt8) (d.extract 0 1) _ hB1 (by simp) (Nat.le_trans (hex 0 1) (by omega)) (by omega)).mono ?_
   rintro e W2 ⟨rfl, hB2, b2⟩
   have s2 := b2.size
   have hw2 := hw1.trans (b2.mono (by omega))
   have l2 : (([] : List UInt8) ++ (d.extract 0 1).data.toList).length ≤ 1000001 := by
    have := hex 0 1
    have h1 : (d.extract 0 1).data.toList.length = (d.extract 0 1).size := by simp
    rw [List.length_append, h1]; simp; omega
   have hse : ((⟨#[101]⟩ : ByteArray) ++ it).size ≤ 2000000 := by rw [ByteArray.size_append]; have h1 : (⟨#[101]⟩ : ByteArray).size = 1 := rfl; omega
   have hsd : ((⟨#[46]⟩ : ByteArray) ++ d.extract 1 d.size).size ≤ 2000000 := by rw [ByteArray.size_append]; have := hex 1 d.size; have h1 : (⟨#[46]⟩ : ByteArray).size = 1 := rfl; omega
   have hx1' := hex 1 d.size
   have fin : ∀ (L3 : List UInt8) (W3 : World), w.heap.size + 2 ≤ W3.heap.size → L3.length ≤ 4000000 → Lib.IsBuilder 176 5 (w.heap.size + 1) (w.heap.size + 1) (Lib.byteCells L3) W3 → Below w.heap.size w W3 →
     Calls Tryz.prog 123 #[.int .i64 x] W3 (fun e w' => e = .returned (.string it) ∧ Lib.IsBuilder 176 5 (w.heap.size + 1) (w.heap.size + 1) (Lib.byteCells L3) w' ∧ Below w.heap.size w w' ∧ W3.heap.size ≤ w'.heap.size) := by
    intro L3 W3 h1 h2 h3 h4
    refine (hI it hit W3 h4).mono ?_
    rintro e w' ⟨h5, h6⟩
    exact ⟨h5, builder_below h3 h6, h4.trans (h6.mono (by omega)), h6.size⟩
   go_wp2_with (fail)
   ·rename_i hd2
    refine (Tryz.ws (w.heap.size + 1) (w.heap.size + 1) _ _ _ hB2 (by omega) (by omega) (by omega)).mono ?_
    rintro e W3 ⟨rfl, hB3, b3⟩
    have s3 := b3.size
    have hw3 := hw2.trans (b3.mono (by omega))
    have l3 : (([] : List UInt8) ++ (d.extract 0 1).data.toList ++ ((⟨#[46]⟩ : ByteArray) ++ d.extract 1 d.size).data.toList).length ≤ 3500000 := by
     have h1 : ((⟨#[46]⟩ : ByteArray) ++ d.extract 1 d.size).data.toList.length = ((⟨#[46]⟩ : ByteArray) ++ d.extract 1 d.size).size := ba_len _
     rw [List.length_append, h1]; omega
    go_wp2_with (fail)
    refine (fin _ W3 (by omega) (by omega) hB3 hw3).mono ?_
    rintro e W4 ⟨rfl, hB4, hw4, s4⟩
    go_wp2_with (fail)
    refine (Tryz.ws (w.heap.size + 1) (w.heap.size + 1) _ _ _ hB4 (by omega) (by omega) (by omega)).mono ?_
    rintro e W5 ⟨rfl, hB5, b5⟩
    have s5 := b5.size
    have hw5 := hw4.trans (b5.mono (by omega))
    go_wp2_with (fail)
    have hd3 : d.size > 1 := by omega
    refine (Tryz.st (w.heap.size + 1) (w.heap.size + 1) _ _ hB5 (by omega)).mono ?_
    rintro e W9 ⟨rfl, b9⟩
    go_wp2_with (fail)
    go_ret
    exact ⟨congrArg (fun s => Ending.returned (Value.string s)) (ba_ext (by simp only [ba_app, List.append_assoc, if_pos hd3, List.nil_append, List.append_nil, List.singleton_append, List.cons_append, List.toList_toArray, if_true, Bool.false_eq_true, if_false, ByteArray.data_extract, Array.toList_extract, List.extract_eq_take_drop, List.drop_zero, Nat.sub_zero, List.drop_one])), hw5.trans (b9.mono (by omega))⟩
   ·rename_i hd2
    refine (fin _ W2 (by omega) (by omega) hB2 hw2).mono ?_
    rintro e W4 ⟨rfl, hB4, hw4, s4⟩
    go_wp2_with (fail)
    refine (Tryz.ws (w.heap.size + 1) (w.heap.size + 1) _ _ _ hB4 (by omega) (by omega) (by omega)).mono ?_
    rintro e W5 ⟨rfl, hB5, b5⟩
    have s5 := b5.size
    have hw5 := hw4.trans (b5.mono (by omega))
    go_wp2_with (fail)
    have hd3 : ¬ d.size > 1 := by omega
    refine (Tryz.st (w.heap.size + 1) (w.heap.size + 1) _ _ hB5 (by omega)).mono ?_
    rintro e W9 ⟨rfl, b9⟩
    go_wp2_with (fail)
    go_ret
    exact ⟨congrArg (fun s => Ending.returned (Value.string s)) (ba_ext (by simp only [ba_app, List.append_assoc, if_neg hd3, List.nil_append, List.append_nil, List.singleton_append, List.cons_append, List.toList_toArray, if_true, Bool.false_eq_true, if_false, ByteArray.data_extract, Array.toList_extract, List.extract_eq_take_drop, List.drop_zero, Nat.sub_zero, List.drop_one])), hw5.trans (b9.mono (by omega))⟩
  ·exfalso
   rw [if_pos (by omega)] at hr
   split at hr
   ·omega
   ·cases hr
  ·rw [if_neg (by omega), if_pos (by omega)] at hr
   obtain ⟨z, hz, hr⟩ := Option.bind_eq_some_iff.1 hr
   obtain rfl := Option.some.inj hr
   have hzs := hRs _ _ hz (by omega)
   refine (hRep _ z _ hz).mono ?_
   rintro e W2 ⟨rfl, b2⟩
   have s2 := b2.size
   have hB2 := builder_below hB1 b2
   have hw2 := hw1.trans (b2.mono (by omega))
   have h02 : (⟨#[48, 46]⟩ : ByteArray).size = 2 := rfl
   have hza : ((⟨#[48, 46]⟩ : ByteArray) ++ z).size = 2 + z.size := by rw [ByteArray.size_append]; omega
   have hzb : ((⟨#[48, 46]⟩ : ByteArray) ++ z ++ d).size = 2 + z.size + d.size := by rw [ByteArray.size_append]; omega
   go_wp2_with (fail)
   refine (Tryz.ws (w.heap.size + 1) (w.heap.size + 1) _ _ _ hB2 (by simp) (by omega) (by omega)).mono ?_
   rintro e W5 ⟨rfl, hB5, b5⟩
   have s5 := b5.size
   have hw5 := hw2.trans (b5.mono (by omega))
   go_wp2_with (fail)
   refine (Tryz.st (w.heap.size + 1) (w.heap.size + 1) _ _ hB5 (by omega)).mono ?_
   rintro e W9 ⟨rfl, b9⟩
   go_wp2_with (fail)
   go_ret
   exact ⟨congrArg (fun s => Ending.returned (Value.string s)) (ba_ext (by simp only [ba_app, List.append_assoc, List.nil_append, List.append_nil, List.singleton_append, List.cons_append, List.toList_toArray, if_true, Bool.false_eq_true, if_false, ByteArray.data_extract, Array.toList_extract, List.extract_eq_take_drop, List.drop_zero, Nat.sub_zero, List.drop_one])), hw5.trans (b9.mono (by omega))⟩
  ·rw [if_neg (by omega), if_neg (by omega), if_pos (by omega)] at hr
   obtain rfl := Option.some.inj hr
   have h46 : (⟨#[46]⟩ : ByteArray).size = 1 := rfl
   have hxa := hex 0 (x + 1).toNat
   have hxb := hex (x + 1).toNat d.size
   have hza : (d.extract 0 (x + 1).toNat ++ (⟨#[46]⟩ : ByteArray)).size = (d.extract 0 (x + 1).toNat).size + 1 := by rw [ByteArray.size_append, h46]
   have hzb : (d.extract 0 (x + 1).toNat ++ (⟨#[46]⟩ : ByteArray) ++ d.extract (x + 1).toNat d.size).size = (d.extract 0 (x + 1).toNat).size + 1 + (d.extract (x + 1).toNat d.size).size := by rw [ByteArray.size_append, hza]
   have hB2 : Lib.IsBuilder 176 5 (w.heap.size + 1) (w.heap.size + 1) (Lib.byteCells ([] : List UInt8)) W1.drew.drew := by
    rcases hB1 with h | h
    ·exact .inl h.drew
    ·exact .inr h.drew
   have hs2 : w.heap.size + 2 ≤ W1.drew.drew.heap.size := hs1
   have q1 : x + 1 ≤ (d.size : Int) := by omega
   have q2 : 0 ≤ x + 1 := by omega
   have q3 : IntKind.i64.wrap (x + 1) = x + 1 := by simp [IntKind.wrap, IntKind.bits, IntKind.signed]; omega
   go_region_with (go_at_call 122; refine (Tryz.ws (w.heap.size + 1) (w.heap.size + 1) _ _ _ hB2 (by simp) (by omega) (by omega)).mono ?_; rintro e W5 ⟨rfl, hB5, b5⟩)
   have s5 := b5.size
   have hw5 := hw1.drew.trans (b5.mono (by omega))
   go_wp2_with (fail)
   refine (Tryz.st (w.heap.size + 1) (w.heap.size + 1) _ _ hB5 (by omega)).mono ?_
   rintro e W9 ⟨rfl, b9⟩
   go_wp2_with (fail)
   go_ret
   exact ⟨congrArg (fun s => Ending.returned (Value.string s)) (ba_ext (by simp only [ba_app, List.append_assoc, List.nil_append, List.append_nil, List.singleton_append, List.cons_append, List.toList_toArray, if_true, Bool.false_eq_true, if_false, ByteArray.data_extract, Array.toList_extract, List.extract_eq_take_drop, List.drop_zero, Nat.sub_zero, List.drop_one])), hw5.trans (b9.mono (by omega))⟩
  ·rw [if_neg (by omega), if_neg (by omega), if_neg (by omega)] at hr
   obtain ⟨z, hz, hr⟩ := Option.bind_eq_some_iff.1 hr
   obtain rfl := Option.some.inj hr
   have hzs := hRs _ _ hz (by omega)
   refine (hRep _ z _ hz).mono ?_
   rintro e W2 ⟨rfl, b2⟩
   have s2 := b2.size
   have hB2 := builder_below hB1 b2
   have hw2 := hw1.trans (b2.mono (by omega))
   have hza : (d ++ z).size = d.size + z.size := by rw [ByteArray.size_append]
   go_wp2_with (fail)
   refine (Tryz.ws (w.heap.size + 1) (w.heap.size + 1) _ _ _ hB2 (by simp) (by omega) (by omega)).mono ?_
   rintro e W5 ⟨rfl, hB5, b5⟩
   have s5 := b5.size
   have hw5 := hw2.trans (b5.mono (by omega))
   go_wp2_with (fail)
   refine (Tryz.st (w.heap.size + 1) (w.heap.size + 1) _ _ hB5 (by omega)).mono ?_
   rintro e W9 ⟨rfl, b9⟩
   go_wp2_with (fail)
   go_ret
   exact ⟨congrArg (fun s => Ending.returned (Value.string s)) (ba_ext (by simp only [ba_app, List.append_assoc, List.nil_append, List.append_nil, List.singleton_append, List.cons_append, List.toList_toArray, if_true, Bool.false_eq_true, if_false, ByteArray.data_extract, Array.toList_extract, List.extract_eq_take_drop, List.drop_zero, Nat.sub_zero, List.drop_one])), hw5.trans (b9.mono (by omega))⟩
  ·rw [if_pos (by omega)] at hr
   split at hr
   case isFalse => cases hr
   rename_i hd1
   obtain ⟨it, hit, hr⟩ := Option.bind_eq_some_iff.1 hr
   split at hr
   case isFalse => cases hr
   rename_i hits
   obtain rfl := Option.some.inj hr
   refine (Tryz.ws (w.heap.size + 1) (w.heap.size + 1) ([] : List UInt8) (d.extract 0 1) _ hB1 (by simp) (Nat.le_trans (hex 0 1) (by omega)) (by omega)).mono ?_
   rintro e W2 ⟨rfl, hB2, b2⟩
   have s2 := b2.size
   have hw2 := hw1.trans (b2.mono (by omega))
   have l2 : (([] : List UInt8) ++ (d.extract 0 1).data.toList).length ≤ 1000001 := by
    have := hex 0 1
    have h1 : (d.extract 0 1).data.toList.length = (d.extract 0 1).size := by simp
    rw [List.length_append, h1]; simp; omega
   have hse : ((⟨#[101]⟩ : ByteArray) ++ it).size ≤ 2000000 := by rw [ByteArray.size_append]; have h1 : (⟨#[101]⟩ : ByteArray).size = 1 := rfl; omega
   have hsd : ((⟨#[46]⟩ : ByteArray) ++ d.extract 1 d.size).size ≤ 2000000 := by rw [ByteArray.size_append]; have := hex 1 d.size; have h1 : (⟨#[46]⟩ : ByteArray).size = 1 := rfl; omega
   have hx1' := hex 1 d.size
   have fin : ∀ (L3 : List UInt8) (W3 : World), w.heap.size + 2 ≤ W3.heap.size → L3.length ≤ 4000000 → Lib.IsBuilder 176 5 (w.heap.size + 1) (w.heap.size + 1) (Lib.byteCells L3) W3 → Below w.heap.size w W3 →
     Calls Tryz.prog 123 #[.int .i64 x] W3 (fun e w' => e = .returned (.string it) ∧ Lib.IsBuilder 176 5 (w.heap.size + 1) (w.heap.size + 1) (Lib.byteCells L3) w' ∧ Below w.heap.size w w' ∧ W3.heap.size ≤ w'.heap.size) := by
    intro L3 W3 h1 h2 h3 h4
    refine (hI it hit W3 h4).mono ?_
    rintro e w' ⟨h5, h6⟩
    exact ⟨h5, builder_below h3 h6, h4.trans (h6.mono (by omega)), h6.size⟩
   go_wp2_with (fail)
   ·rename_i hd2
    refine (Tryz.ws (w.heap.size + 1) (w.heap.size + 1) _ _ _ hB2 (by omega) (by omega) (by omega)).mono ?_
    rintro e W3 ⟨rfl, hB3, b3⟩
    have s3 := b3.size
    have hw3 := hw2.trans (b3.mono (by omega))
    have l3 : (([] : List UInt8) ++ (d.extract 0 1).data.toList ++ ((⟨#[46]⟩ : ByteArray) ++ d.extract 1 d.size).data.toList).length ≤ 3500000 := by
     have h1 : ((⟨#[46]⟩ : ByteArray) ++ d.extract 1 d.size).data.toList.length = ((⟨#[46]⟩ : ByteArray) ++ d.extract 1 d.size).size := ba_len _
     rw [List.length_append, h1]; omega
    go_wp2_with (fail)
    refine (fin _ W3 (by omega) (by omega) hB3 hw3).mono ?_
    rintro e W4 ⟨rfl, hB4, hw4, s4⟩
    go_wp2_with (fail)
    refine (Tryz.ws (w.heap.size + 1) (w.heap.size + 1) _ _ _ hB4 (by omega) (by omega) (by omega)).mono ?_
    rintro e W5 ⟨rfl, hB5, b5⟩
    have s5 := b5.size
    have hw5 := hw4.trans (b5.mono (by omega))
    go_wp2_with (fail)
    have hd3 : d.size > 1 := by omega
    refine (Tryz.st (w.heap.size + 1) (w.heap.size + 1) _ _ hB5 (by omega)).mono ?_
    rintro e W9 ⟨rfl, b9⟩
    go_wp2_with (fail)
    go_ret
    exact ⟨congrArg (fun s => Ending.returned (Value.string s)) (ba_ext (by simp only [ba_app, List.append_assoc, if_pos hd3, List.nil_append, List.append_nil, List.singleton_append, List.cons_append, List.toList_toArray, if_true, Bool.false_eq_true, if_false, ByteArray.data_extract, Array.toList_extract, List.extract_eq_take_drop, List.drop_zero, Nat.sub_zero, List.drop_one])), hw5.trans (b9.mono (by omega))⟩
   ·rename_i hd2
    refine (fin _ W2 (by omega) (by omega) hB2 hw2).mono ?_
    rintro e W4 ⟨rfl, hB4, hw4, s4⟩
    go_wp2_with (fail)
    refine (Tryz.ws (w.heap.size + 1) (w.heap.size + 1) _ _ _ hB4 (by omega) (by omega) (by omega)).mono ?_
    rintro e W5 ⟨rfl, hB5, b5⟩
    have s5 := b5.size
    have hw5 := hw4.trans (b5.mono (by omega))
    go_wp2_with (fail)
    have hd3 : ¬ d.size > 1 := by omega
    refine (Tryz.st (w.heap.size + 1) (w.heap.size + 1) _ _ hB5 (by omega)).mono ?_
    rintro e W9 ⟨rfl, b9⟩
    go_wp2_with (fail)
    go_ret
    exact ⟨congrArg (fun s => Ending.returned (Value.string s)) (ba_ext (by simp only [ba_app, List.append_assoc, if_neg hd3, List.nil_append, List.append_nil, List.singleton_append, List.cons_append, List.toList_toArray, if_true, Bool.false_eq_true, if_false, ByteArray.data_extract, Array.toList_extract, List.extract_eq_take_drop, List.drop_zero, Nat.sub_zero, List.drop_one])), hw5.trans (b9.mono (by omega))⟩
  ·exfalso
   rw [if_pos (by omega)] at hr
   split at hr
   ·omega
   ·cases hr
 | true =>
  have hB0 : Lib.IsBuilder 176 5 (w.heap.size + 1) (w.heap.size + 1) (Lib.byteCells []) ((w.alloc (Obj.cells #[Value.bool true, Value.string d, Value.int IntKind.i64 x] 96)).alloc (Obj.cells #[Value.pointer none, Value.slice none 0 0] 176)) := by
   have := Lib.fresh_isBuilder 176 5 (w.alloc (Obj.cells #[Value.bool true, Value.string d, Value.int IntKind.i64 x] 96))
   have e : (w.alloc (Obj.cells #[Value.bool true, Value.string d, Value.int IntKind.i64 x] 96)).heap.size = w.heap.size + 1 := by simp
   rw [e] at this
   exact this
  have hbel0 : Below w.heap.size w ((w.alloc (Obj.cells #[Value.bool true, Value.string d, Value.int IntKind.i64 x] 96)).alloc (Obj.cells #[Value.pointer none, Value.slice none 0 0] 176)) := ((Below.refl _ w).alloc (Nat.le_refl _) _).alloc (by simp) _
  have hsz0 : w.heap.size + 2 ≤ ((w.alloc (Obj.cells #[Value.bool true, Value.string d, Value.int IntKind.i64 x] 96)).alloc (Obj.cells #[Value.pointer none, Value.slice none 0 0] 176)).heap.size := by simp
  have hc10 : ((w.alloc (Obj.cells #[Value.bool true, Value.string d, Value.int IntKind.i64 x] 96)).alloc (Obj.cells #[Value.pointer none, Value.slice none 0 0] 176)).cell? ⟨w.heap.size, 1, none⟩ = some (.string d) := by go_simp
  have hc20 : ((w.alloc (Obj.cells #[Value.bool true, Value.string d, Value.int IntKind.i64 x] 96)).alloc (Obj.cells #[Value.pointer none, Value.slice none 0 0] 176)).cell? ⟨w.heap.size, 2, none⟩ = some (.int .i64 x) := by go_simp
  go_wp2_with (fail)
  refine (Tryz.wb (w.heap.size + 1) (w.heap.size + 1) [] _ hB0 (by simp) (by omega)).mono ?_
  rintro e W1 ⟨rfl, hB, b1⟩
  have hbel := hbel0.trans (b1.mono (by omega))
  have hsz : w.heap.size + 2 ≤ W1.heap.size := Nat.le_trans hsz0 b1.size
  have hc1 : W1.cell? ⟨w.heap.size, 1, none⟩ = some (.string d) := by rw [b1.cell (by show w.heap.size < w.heap.size + 1; omega)]; exact hc10
  have hc2 : W1.cell? ⟨w.heap.size, 2, none⟩ = some (.int .i64 x) := by rw [b1.cell (by show w.heap.size < w.heap.size + 1; omega)]; exact hc20
  go_wp2_with (fail)
  have hB1 : Lib.IsBuilder 176 5 (w.heap.size + 1) (w.heap.size + 1) (Lib.byteCells ([45] : List UInt8)) W1.drew := by
   rcases hB with h | h
   ·exact .inl h.drew
   ·exact .inr h.drew
  have hw1 : Below w.heap.size w W1.drew := hbel.drew
  have hs1 : w.heap.size + 2 ≤ W1.drew.heap.size := hsz
  clear hB hbel hsz hB0 hbel0 hsz0 hc10 hc20
  go_region
  all_goals go_wp2_with (fail)
  ·rw [if_pos (by omega)] at hr
   split at hr
   case isFalse => cases hr
   rename_i hd1
   obtain ⟨it, hit, hr⟩ := Option.bind_eq_some_iff.1 hr
   split at hr
   case isFalse => cases hr
   rename_i hits
   obtain rfl := Option.some.inj hr
   refine (Tryz.ws (w.heap.size + 1) (w.heap.size + 1) ([45] : List UInt8) (d.extract 0 1) _ hB1 (by simp) (Nat.le_trans (hex 0 1) (by omega)) (by omega)).mono ?_
   rintro e W2 ⟨rfl, hB2, b2⟩
   have s2 := b2.size
   have hw2 := hw1.trans (b2.mono (by omega))
   have l2 : (([45] : List UInt8) ++ (d.extract 0 1).data.toList).length ≤ 1000001 := by
    have := hex 0 1
    have h1 : (d.extract 0 1).data.toList.length = (d.extract 0 1).size := by simp
    rw [List.length_append, h1]; simp; omega
   have hse : ((⟨#[101]⟩ : ByteArray) ++ it).size ≤ 2000000 := by rw [ByteArray.size_append]; have h1 : (⟨#[101]⟩ : ByteArray).size = 1 := rfl; omega
   have hsd : ((⟨#[46]⟩ : ByteArray) ++ d.extract 1 d.size).size ≤ 2000000 := by rw [ByteArray.size_append]; have := hex 1 d.size; have h1 : (⟨#[46]⟩ : ByteArray).size = 1 := rfl; omega
   have hx1' := hex 1 d.size
   have fin : ∀ (L3 : List UInt8) (W3 : World), w.heap.size + 2 ≤ W3.heap.size → L3.length ≤ 4000000 → Lib.IsBuilder 176 5 (w.heap.size + 1) (w.heap.size + 1) (Lib.byteCells L3) W3 → Below w.heap.size w W3 →
     Calls Tryz.prog 123 #[.int .i64 x] W3 (fun e w' => e = .returned (.string it) ∧ Lib.IsBuilder 176 5 (w.heap.size + 1) (w.heap.size + 1) (Lib.byteCells L3) w' ∧ Below w.heap.size w w' ∧ W3.heap.size ≤ w'.heap.size) := by
    intro L3 W3 h1 h2 h3 h4
    refine (hI it hit W3 h4).mono ?_
    rintro e w' ⟨h5, h6⟩
    exact ⟨h5, builder_below h3 h6, h4.trans (h6.mono (by omega)), h6.size⟩
   go_wp2_with (fail)
   ·rename_i hd2
    refine (Tryz.ws (w.heap.size + 1) (w.heap.size + 1) _ _ _ hB2 (by omega) (by omega) (by omega)).mono ?_
    rintro e W3 ⟨rfl, hB3, b3⟩
    have s3 := b3.size
    have hw3 := hw2.trans (b3.mono (by omega))
    have l3 : (([45] : List UInt8) ++ (d.extract 0 1).data.toList ++ ((⟨#[46]⟩ : ByteArray) ++ d.extract 1 d.size).data.toList).length ≤ 3500000 := by
     have h1 : ((⟨#[46]⟩ : ByteArray) ++ d.extract 1 d.size).data.toList.length = ((⟨#[46]⟩ : ByteArray) ++ d.extract 1 d.size).size := ba_len _
     rw [List.length_append, h1]; omega
    go_wp2_with (fail)
    refine (fin _ W3 (by omega) (by omega) hB3 hw3).mono ?_
    rintro e W4 ⟨rfl, hB4, hw4, s4⟩
    go_wp2_with (fail)
    refine (Tryz.ws (w.heap.size + 1) (w.heap.size + 1) _ _ _ hB4 (by omega) (by omega) (by omega)).mono ?_
    rintro e W5 ⟨rfl, hB5, b5⟩
    have s5 := b5.size
    have hw5 := hw4.trans (b5.mono (by omega))
    go_wp2_with (fail)
    have hd3 : d.size > 1 := by omega
    refine (Tryz.st (w.heap.size + 1) (w.heap.size + 1) _ _ hB5 (by omega)).mono ?_
    rintro e W9 ⟨rfl, b9⟩
    go_wp2_with (fail)
    go_ret
    exact ⟨congrArg (fun s => Ending.returned (Value.string s)) (ba_ext (by simp only [ba_app, List.append_assoc, if_pos hd3, List.nil_append, List.append_nil, List.singleton_append, List.cons_append, List.toList_toArray, if_true, Bool.false_eq_true, if_false, ByteArray.data_extract, Array.toList_extract, List.extract_eq_take_drop, List.drop_zero, Nat.sub_zero, List.drop_one])), hw5.trans (b9.mono (by omega))⟩
   ·rename_i hd2
    refine (fin _ W2 (by omega) (by omega) hB2 hw2).mono ?_
    rintro e W4 ⟨rfl, hB4, hw4, s4⟩
    go_wp2_with (fail)
    refine (Tryz.ws (w.heap.size + 1) (w.heap.size + 1) _ _ _ hB4 (by omega) (by omega) (by omega)).mono ?_
    rintro e W5 ⟨rfl, hB5, b5⟩
    have s5 := b5.size
    have hw5 := hw4.trans (b5.mono (by omega))
    go_wp2_with (fail)
    have hd3 : ¬ d.size > 1 := by omega
    refine (Tryz.st (w.heap.size + 1) (w.heap.size + 1) _ _ hB5 (by omega)).mono ?_
    rintro e W9 ⟨rfl, b9⟩
    go_wp2_with (fail)
    go_ret
    exact ⟨congrArg (fun s => Ending.returned (Value.string s)) (ba_ext (by simp only [ba_app, List.append_assoc, if_neg hd3, List.nil_append, List.append_nil, List.singleton_append, List.cons_append, List.toList_toArray, if_true, Bool.false_eq_true, if_false, ByteArray.data_extract, Array.toList_extract, List.extract_eq_take_drop, List.drop_zero, Nat.sub_zero, List.drop_one])), hw5.trans (b9.mono (by omega))⟩
  ·exfalso
   rw [if_pos (by omega)] at hr
   split at hr
   ·omega
   ·cases hr
  ·rw [if_neg (by omega), if_pos (by omega)] at hr
   obtain ⟨z, hz, hr⟩ := Option.bind_eq_some_iff.1 hr
   obtain rfl := Option.some.inj hr
   have hzs := hRs _ _ hz (by omega)
   refine (hRep _ z _ hz).mono ?_
   rintro e W2 ⟨rfl, b2⟩
   have s2 := b2.size
   have hB2 := builder_below hB1 b2
   have hw2 := hw1.trans (b2.mono (by omega))
   have h02 : (⟨#[48, 46]⟩ : ByteArray).size = 2 := rfl
   have hza : ((⟨#[48, 46]⟩ : ByteArray) ++ z).size = 2 + z.size := by rw [ByteArray.size_append]; omega
   have hzb : ((⟨#[48, 46]⟩ : ByteArray) ++ z ++ d).size = 2 + z.size + d.size := by rw [ByteArray.size_append]; omega
   go_wp2_with (fail)
   refine (Tryz.ws (w.heap.size + 1) (w.heap.size + 1) _ _ _ hB2 (by simp) (by omega) (by omega)).mono ?_
   rintro e W5 ⟨rfl, hB5, b5⟩
   have s5 := b5.size
   have hw5 := hw2.trans (b5.mono (by omega))
   go_wp2_with (fail)
   refine (Tryz.st (w.heap.size + 1) (w.heap.size + 1) _ _ hB5 (by omega)).mono ?_
   rintro e W9 ⟨rfl, b9⟩
   go_wp2_with (fail)
   go_ret
   exact ⟨congrArg (fun s => Ending.returned (Value.string s)) (ba_ext (by simp only [ba_app, List.append_assoc, List.nil_append, List.append_nil, List.singleton_append, List.cons_append, List.toList_toArray, if_true, Bool.false_eq_true, if_false, ByteArray.data_extract, Array.toList_extract, List.extract_eq_take_drop, List.drop_zero, Nat.sub_zero, List.drop_one])), hw5.trans (b9.mono (by omega))⟩
  ·rw [if_neg (by omega), if_neg (by omega), if_pos (by omega)] at hr
   obtain rfl := Option.some.inj hr
   have h46 : (⟨#[46]⟩ : ByteArray).size = 1 := rfl
   have hxa := hex 0 (x + 1).toNat
   have hxb := hex (x + 1).toNat d.size
   have hza : (d.extract 0 (x + 1).toNat ++ (⟨#[46]⟩ : ByteArray)).size = (d.extract 0 (x + 1).toNat).size + 1 := by rw [ByteArray.size_append, h46]
   have hzb : (d.extract 0 (x + 1).toNat ++ (⟨#[46]⟩ : ByteArray) ++ d.extract (x + 1).toNat d.size).size = (d.extract 0 (x + 1).toNat).size + 1 + (d.extract (x + 1).toNat d.size).size := by rw [ByteArray.size_append, hza]
   have hB2 : Lib.IsBuilder 176 5 (w.heap.size + 1) (w.heap.size + 1) (Lib.byteCells ([45] : List UInt8)) W1.drew.drew := by
    rcases hB1 with h | h
    ·exact .inl h.drew
    ·exact .inr h.drew
   have hs2 : w.heap.size + 2 ≤ W1.drew.drew.heap.size := hs1
   have q1 : x + 1 ≤ (d.size : Int) := by omega
   have q2 : 0 ≤ x + 1 := by omega
   have q3 : IntKind.i64.wrap (x + 1) = x + 1 := by simp [IntKind.wrap, IntKind.bits, IntKind.signed]; omega
   go_region_with (go_at_call 122; refine (Tryz.ws (w.heap.size + 1) (w.heap.size + 1) _ _ _ hB2 (by simp) (by omega) (by omega)).mono ?_; rintro e W5 ⟨rfl, hB5, b5⟩)
   have s5 := b5.size
   have hw5 := hw1.drew.trans (b5.mono (by omega))
   go_wp2_with (fail)
   refine (Tryz.st (w.heap.size + 1) (w.heap.size + 1) _ _ hB5 (by omega)).mono ?_
   rintro e W9 ⟨rfl, b9⟩
   go_wp2_with (fail)
   go_ret
   exact ⟨congrArg (fun s => Ending.returned (Value.string s)) (ba_ext (by simp only [ba_app, List.append_assoc, List.nil_append, List.append_nil, List.singleton_append, List.cons_append, List.toList_toArray, if_true, Bool.false_eq_true, if_false, ByteArray.data_extract, Array.toList_extract, List.extract_eq_take_drop, List.drop_zero, Nat.sub_zero, List.drop_one])), hw5.trans (b9.mono (by omega))⟩
  ·rw [if_neg (by omega), if_neg (by omega), if_neg (by omega)] at hr
   obtain ⟨z, hz, hr⟩ := Option.bind_eq_some_iff.1 hr
   obtain rfl := Option.some.inj hr
   have hzs := hRs _ _ hz (by omega)
   refine (hRep _ z _ hz).mono ?_
   rintro e W2 ⟨rfl, b2⟩
   have s2 := b2.size
   have hB2 := builder_below hB1 b2
   have hw2 := hw1.trans (b2.mono (by omega))
   have hza : (d ++ z).size = d.size + z.size := by rw [ByteArray.size_append]
   go_wp2_with (fail)
   refine (Tryz.ws (w.heap.size + 1) (w.heap.size + 1) _ _ _ hB2 (by simp) (by omega) (by omega)).mono ?_
   rintro e W5 ⟨rfl, hB5, b5⟩
   have s5 := b5.size
   have hw5 := hw2.trans (b5.mono (by omega))
   go_wp2_with (fail)
   refine (Tryz.st (w.heap.size + 1) (w.heap.size + 1) _ _ hB5 (by omega)).mono ?_
   rintro e W9 ⟨rfl, b9⟩
   go_wp2_with (fail)
   go_ret
   exact ⟨congrArg (fun s => Ending.returned (Value.string s)) (ba_ext (by simp only [ba_app, List.append_assoc, List.nil_append, List.append_nil, List.singleton_append, List.cons_append, List.toList_toArray, if_true, Bool.false_eq_true, if_false, ByteArray.data_extract, Array.toList_extract, List.extract_eq_take_drop, List.drop_zero, Nat.sub_zero, List.drop_one])), hw5.trans (b9.mono (by omega))⟩
  ·rw [if_pos (by omega)] at hr
   split at hr
   case isFalse => cases hr
   rename_i hd1
   obtain ⟨it, hit, hr⟩ := Option.bind_eq_some_iff.1 hr
   split at hr
   case isFalse => cases hr
   rename_i hits
   obtain rfl := Option.some.inj hr
   refine (Tryz.ws (w.heap.size + 1) (w.heap.size + 1) ([45] : List UInt8) (d.extract 0 1) _ hB1 (by simp) (Nat.le_trans (hex 0 1) (by omega)) (by omega)).mono ?_
   rintro e W2 ⟨rfl, hB2, b2⟩
   have s2 := b2.size
   have hw2 := hw1.trans (b2.mono (by omega))
   have l2 : (([45] : List UInt8) ++ (d.extract 0 1).data.toList).length ≤ 1000001 := by
    have := hex 0 1
    have h1 : (d.extract 0 1).data.toList.length = (d.extract 0 1).size := by simp
    rw [List.length_append, h1]; simp; omega
   have hse : ((⟨#[101]⟩ : ByteArray) ++ it).size ≤ 2000000 := by rw [ByteArray.size_append]; have h1 : (⟨#[101]⟩ : ByteArray).size = 1 := rfl; omega
   have hsd : ((⟨#[46]⟩ : ByteArray) ++ d.extract 1 d.size).size ≤ 2000000 := by rw [ByteArray.size_append]; have := hex 1 d.size; have h1 : (⟨#[46]⟩ : ByteArray).size = 1 := rfl; omega
   have hx1' := hex 1 d.size
   have fin : ∀ (L3 : List UInt8) (W3 : World), w.heap.size + 2 ≤ W3.heap.size → L3.length ≤ 4000000 → Lib.IsBuilder 176 5 (w.heap.size + 1) (w.heap.size + 1) (Lib.byteCells L3) W3 → Below w.heap.size w W3 →
     Calls Tryz.prog 123 #[.int .i64 x] W3 (fun e w' => e = .returned (.string it) ∧ Lib.IsBuilder 176 5 (w.heap.size + 1) (w.heap.size + 1) (Lib.byteCells L3) w' ∧ Below w.heap.size w w' ∧ W3.heap.size ≤ w'.heap.size) := by
    intro L3 W3 h1 h2 h3 h4
    refine (hI it hit W3 h4).mono ?_
    rintro e w' ⟨h5, h6⟩
    exact ⟨h5, builder_below h3 h6, h4.trans (h6.mono (by omega)), h6.size⟩
   go_wp2_with (fail)
   ·rename_i hd2
    refine (Tryz.ws (w.heap.size + 1) (w.heap.size + 1) _ _ _ hB2 (by omega) (by omega) (by omega)).mono ?_
    rintro e W3 ⟨rfl, hB3, b3⟩
    have s3 := b3.size
    have hw3 := hw2.trans (b3.mono (by omega))
    have l3 : (([45] : List UInt8) ++ (d.extract 0 1).data.toList ++ ((⟨#[46]⟩ : ByteArray) ++ d.extract 1 d.size).data.toList).length ≤ 3500000 := by
     have h1 : ((⟨#[46]⟩ : ByteArray) ++ d.extract 1 d.size).data.toList.length = ((⟨#[46]⟩ : ByteArray) ++ d.extract 1 d.size).size := ba_len _
     rw [List.length_append, h1]; omega
    go_wp2_with (fail)
    refine (fin _ W3 (by omega) (by omega) hB3 hw3).mono ?_
    rintro e W4 ⟨rfl, hB4, hw4, s4⟩
    go_wp2_with (fail)
    refine (Tryz.ws (w.heap.size + 1) (w.heap.size + 1) _ _ _ hB4 (by omega) (by omega) (by omega)).mono ?_
    rintro e W5 ⟨rfl, hB5, b5⟩
    have s5 := b5.size
    have hw5 := hw4.trans (b5.mono (by omega))
    go_wp2_with (fail)
    have hd3 : d.size > 1 := by omega
    refine (Tryz.st (w.heap.size + 1) (w.heap.size + 1) _ _ hB5 (by omega)).mono ?_
    rintro e W9 ⟨rfl, b9⟩
    go_wp2_with (fail)
    go_ret
    exact ⟨congrArg (fun s => Ending.returned (Value.string s)) (ba_ext (by simp only [ba_app, List.append_assoc, if_pos hd3, List.nil_append, List.append_nil, List.singleton_append, List.cons_append, List.toList_toArray, if_true, Bool.false_eq_true, if_false, ByteArray.data_extract, Array.toList_extract, List.extract_eq_take_drop, List.drop_zero, Nat.sub_zero, List.drop_one])), hw5.trans (b9.mono (by omega))⟩
   ·rename_i hd2
    refine (fin _ W2 (by omega) (by omega) hB2 hw2).mono ?_
    rintro e W4 ⟨rfl, hB4, hw4, s4⟩
    go_wp2_with (fail)
    refine (Tryz.ws (w.heap.size + 1) (w.heap.size + 1) _ _ _ hB4 (by omega) (by omega) (by omega)).mono ?_
    rintro e W5 ⟨rfl, hB5, b5⟩
    have s5 := b5.size
    have hw5 := hw4.trans (b5.mono (by omega))
    go_wp2_with (fail)
    have hd3 : ¬ d.size > 1 := by omega
    refine (Tryz.st (w.heap.size + 1) (w.heap.size + 1) _ _ hB5 (by omega)).mono ?_
    rintro e W9 ⟨rfl, b9⟩
    go_wp2_with (fail)
    go_ret
    exact ⟨congrArg (fun s => Ending.returned (Value.string s)) (ba_ext (by simp only [ba_app, List.append_assoc, if_neg hd3, List.nil_append, List.append_nil, List.singleton_append, List.cons_append, List.toList_toArray, if_true, Bool.false_eq_true, if_false, ByteArray.data_extract, Array.toList_extract, List.extract_eq_take_drop, List.drop_zero, Nat.sub_zero, List.drop_one])), hw5.trans (b9.mono (by omega))⟩
  ·exfalso
   rw [if_pos (by omega)] at hr
   split at hr
   ·omega
   ·cases hr
end Go.Proofs
namespace Go.Proofs.YtnkpmjhlkmlmbaaGreatDoor.Eng
open Go.RowKit Go.Proofs
theorem qsH {P : Program} {M0 : Mem} {f : Nat} {F : Fun} (ok : qM P M0 f F) {w : World} (h0 : Ext M0 (qea w)) {args : Array Value} {ls : List V} {r : F.S.R}
  (hs : args.size = F.S.ps.length) (ha : ∀ (i : Nat) (v : Value), args[i]? = some v → RV (qea w) (fun _ => none) v (qn (Ent F.S ls).t i))
  (hr : app (qu F.S.ps) F.f ls = some r) :
  Calls P f args w fun e w' => ∃ v M' φ', e = .returned v ∧ RV M' φ' v (qcJ (qr (Ent F.S ls).nx F.S.rs (F.S.un r)).1) ∧ Below w.heap.size w w' := by
 have hrel : Rel (qea w) (fun _ => none) (qf (Ent F.S ls).O) w := by
  refine ⟨fun _ _ _ h => h, ?_, ?_, ?_⟩
  ·intro id p h; cases h
  ·intro id p h; cases h
  ·intro id id' p p' _ h; cases h
 refine (ok.call (qea w) (fun _ => none) w args ls r h0 ⟨hrel, hs, ha, fun _ _ => rfl⟩ hr).mono fun e w' h => ?_
 obtain ⟨v, he, _, M', φ', hrv, _, hst, _⟩ := h
 exact ⟨v, M', φ', he, hrv, hst.kept.os, hst.kept.tape, hst.kept.output, hst.kept.size, fun k hk => hst.kept.block k hk fun _ => qnJ⟩
theorem qbv.ok : ∀ k, qM Tryz.prog qbq 65 (qbv.F k) := fun k => by
 refine ⟨⟨Tryz.f65, qco Tryz.f65, Tryz.func65, by kernel_rfl, by kernel_rfl⟩, rfl, rfl, fun M φ w args ls r hgl hc hr => ?_⟩
 have hlf : qg [.b, .s, .i .i64] ls = true := qbV hr
 obtain ⟨neg, d, x, rfl⟩ : ∃ neg d x, ls = [.bool neg, .str d, .int .i64 x] := by
  match ls, hlf with
  | [a, b, c], h =>
   have h : qg [.b, .s, .i .i64] [a, b, c] = true := h
   simp only [qg, Bool.and_true, Bool.and_eq_true] at h
   obtain ⟨h1, h2, h3⟩ := h
   cases a <;> first | (cases h1; done) | skip
   cases b <;> first | (cases h2; done) | skip
   cases c <;> first | (cases h3; done) | skip
   rw [← qW h3]
   exact ⟨_, _, _, rfl⟩
  | [], h => cases h
  | [_], h => simp [qg] at h
  | [_, _], h => simp [qg] at h
  | _ :: _ :: _ :: _ :: _, h => simp [qg] at h
 have hr : qbv.f k neg d x = some r := hr
 have hargs : args = #[.agg #[.bool neg, .string d, .int .i64 x]] := by
  have hs : args.size = 1 := hc.size
  have h0 : args[0]? = some (args[0]'(by omega)) := Array.getElem?_eq_getElem _
  obtain ⟨a, e, has, hg⟩ := (show RA M φ _ (.agg [.bool neg, .str d, .int .i64 x]) from hc.args 0 _ h0)
  obtain ⟨u0, g0, r0⟩ := hg 0 _ rfl
  obtain ⟨u1, g1, r1⟩ := hg 1 _ rfl
  obtain ⟨u2, g2, r2⟩ := hg 2 _ rfl
  have e0 : u0 = .bool neg := r0
  have e1 : u1 = .string d := r1
  have e2 : u2 = .int .i64 x := r2.1
  have ea : a = #[.bool neg, .string d, .int .i64 x] := by
   apply Array.ext_getElem?
   intro i
   match i with
   | 0 => rw [g0, e0]; rfl
   | 1 => rw [g1, e1]; rfl
   | 2 => rw [g2, e2]; rfl
   | i + 3 => rw [Array.getElem?_eq_none (by rw [has]; simp), Array.getElem?_eq_none (by simp)]
  apply Array.ext_getElem?
  intro i
  cases i with
  | zero => rw [h0, e, ea]; rfl
  | succ i => rw [Array.getElem?_eq_none (by omega), Array.getElem?_eq_none (by simp)]
 have hx : -1000000 ≤ x ∧ x ≤ 1000000 := by
  have h := hr
  unfold qbv.f at h
  split at h
  ·rename_i hb; exact hb.2
  ·cases h
 have hcall := Tryz.plain_walk k neg d x r hr (by omega) (by omega) w fun it hit w1 hb1 => by
  refine (qsH (qhm.ok k) (w := w1) (args := #[.int .i64 x]) (ls := [.int .i64 x]) (r := it) ?_ rfl ?_ hit).mono ?_
  ·intro b o v hv
   have h1 := hc.rel.holds b o v (hgl b o v hv)
   show w1.cell? _ = _
   rw [hb1.cell (qdB h1)]
   exact h1
  ·intro i v hv
   cases i with
   | zero =>
    obtain rfl := Option.some.inj hv
    exact ⟨rfl, qdC _⟩
   | succ i => simp at hv
  ·rintro e w' ⟨v, M', φ', he, hrv, hbl⟩
   have hv : v = .string it := hrv
   exact ⟨by rw [he, hv], hbl⟩
 rw [hargs]
 refine hcall.mono fun e w' ⟨he, hb⟩ => ⟨_, he, rfl, M, φ, rfl, ?_, ?_, qy.refl φ⟩
 all_goals
  have hg := qkG hb
  have hB : qa7 (qbv.F k).S (Ent (qbv.F k).S [.bool neg, .str d, .int .i64 x]).nx r = fun _ => .gone := rfl
  have hB0 : qf (Ent (qbv.F k).S [.bool neg, .str d, .int .i64 x]).O = fun _ => .gone := rfl
  rw [hB]
 ·have := hc.rel.grew hg
  rwa [hB0] at this
 ·rw [hB0]
  exact ⟨Ext.refl M, hg.kp _, fun _ _ h => .inl h, fun _ _ _ h => .inl h⟩
set_option maxRecDepth 100000
theorem qi3.ok : Fo 64 (sg [.ag [.b, .s, .i .i64], .lf (.i .i64)] [.lf (.b)]) fun _ => qi3.f := fo 13 Tryz.func64 .z
theorem qaw.ok : Fo 18 (sg [.lf (.i .u8), .lf (.i .u64)] [.lf (.s), .lf (.i .i64)]) qaw.f := fo 85 Tryz.func18 (.o qeH.ok (.o qeL.ok (.o qhl.ok (.o qiU.ok (.o qeM.ok (.o qiW.ok (.o qi3.ok (.o qbv.ok .z)))))))) [[tt, tt, tt, tt, ff, tt, ff], [tt, ff, tt, tt], [tt, tt, tt, tt, ff, tt, ff, ff, tt, ff, ff, tt, tt, ff, tt], [tt, tt, tt, tt, ff, tt, ff, ff, tt, ff, ff, tt, tt, tt]] (fun k => [⟨[(9, .bx [.b, .s, .i .i64]), (10, .cl 59 [[.i .u8], [.i .u64]]), (11, .lf (.i .i64))], qaw.l0 k⟩, ⟨[(2, .ip [.i .u8]), (3, .ip [.i .u64]), (6, .lf (.s)), (8, .lf (.i .i64)), (28, .lf (.b))], qaw.j0 k⟩, ⟨[(9, .bx [.b, .s, .i .i64]), (10, .cl 59 [[.i .u8], [.i .u64]]), (11, .lf (.i .i64)), (12, .bx [.b, .s, .i .i64]), (13, .bx [.b, .s, .i .i64]), (14, .lf (.b)), (15, .lf (.b)), (57, .lf (.b))], qaw.j3 k⟩, ⟨[(9, .bx [.b, .s, .i .i64]), (10, .cl 59 [[.i .u8], [.i .u64]]), (11, .lf (.i .i64)), (12, .bx [.b, .s, .i .i64]), (13, .bx [.b, .s, .i .i64]), (14, .lf (.b)), (15, .lf (.b))], qaw.j5 k⟩]) (frz := [2, 3])
theorem qeN.ok : Fo 16 (sg [] [.lf (.b)]) qeN.f := fo 33 Tryz.func16 (.o qdm.ok (.o qaw.ok .z))
theorem qb8.ok : Fo 77 (sg [.lf (.s), .lf (.i .i64)] [.lf (.i .i64)]) qb8.f := fo 31 Tryz.func77 .z [[tt, tt, ff, ff]] fun k => [⟨[(0, .lf (.s)), (1, .lf (.i .i64)), (5, .lf (.i .i64))], qb8.l0 k⟩]
theorem qcW.ok : Fo 197 (sg [.lf (.s)] [.lf (.b)]) qcW.f := fo 33 Tryz.func197 .z [[tt, ff, tt, ff]] fun k => [⟨[(0, .lf (.s)), (3, .lf (.i .i64))], qcW.l0 k⟩]
theorem qax.ok : Fo 137 (sg [.lf (.s)] [.lf (.is .u32), .lf (.i .i64)]) qax.f := fo 57 Tryz.func137 (.o qcW.ok .z) [[tt, tt, tt, tt, ff, tt, ff], [tt, tt, tt, tt, ff, tt, ff, ff, tt, ff, ff, tt, ff, tt, ff]] fun k => [⟨[(0, .lf (.s)), (4, .ow .u32), (5, .lf (.i .i64))], qax.l0 k⟩, ⟨[(0, .lf (.s)), (4, .ow .u32), (5, .lf (.i .i64)), (6, .lf (.i .u64)), (7, .lf (.i .i64))], qax.l1 k⟩]
theorem qcX.ok : Fo 78 (sg [.lf (.s)] [.lf (.is .u32)]) qcX.f := fo 21 Tryz.func78 (.o qax.ok .z) [[tt, ff, ff]] fun k => [⟨[(0, .lf (.s))], qcX.l0 k⟩]
theorem qx.ok : Fo 23 (sg [.lf (.s)] [.ag [.b, .s, .is .u32, .i .i64], .lf (.b)]) qx.f := fo 157 Tryz.func23 (.o qb8.ok (.o qcX.ok .z)) [[tt, tt, tt, tt, tt, tt, tt, tt, tt, tt, tt, tt, tt, tt, tt, tt, tt, tt, tt, tt, ff, tt, ff], [tt, tt, tt, tt, tt], [tt, tt, tt, tt, tt, tt, tt, tt, tt, tt, ff, tt], [tt, tt, tt, tt, tt, tt, tt, tt, tt, tt, tt], [tt, tt, tt, tt, tt, tt, tt, tt, tt, tt, tt, tt, tt, tt, tt, tt, ff, tt], [tt, tt, tt, tt, tt, tt, tt, tt, tt, tt, tt, tt, tt, tt, tt, tt, tt], [tt, tt, tt, tt, tt, tt, tt, tt, tt, tt, tt, tt, tt, tt, tt, tt, tt, tt, tt, tt, tt, tt]] fun k => [⟨[(0, .lf (.s)), (2, .bx [.b, .s, .is .u32, .i .i64]), (4, .bx [.b, .s, .is .u32, .i .i64]), (8, .lf (.b)), (9, .lf (.i .i64)), (10, .lf (.i .i64))], qx.l0 k⟩, ⟨[(0, .lf (.s)), (2, .bx [.b, .s, .is .u32, .i .i64]), (4, .bx [.b, .s, .is .u32, .i .i64]), (5, .lf (.i .i64))], qx.j2 k⟩, ⟨[(0, .lf (.s)), (2, .bx [.b, .s, .is .u32, .i .i64]), (4, .bx [.b, .s, .is .u32, .i .i64]), (5, .lf (.i .i64)), (7, .lf (.s)), (53, .lf (.b))], qx.j5 k⟩, ⟨[(0, .lf (.s)), (2, .bx [.b, .s, .is .u32, .i .i64]), (4, .bx [.b, .s, .is .u32, .i .i64]), (5, .lf (.i .i64)), (7, .lf (.s))], qx.j7 k⟩, ⟨[(0, .lf (.s)), (2, .bx [.b, .s, .is .u32, .i .i64]), (4, .bx [.b, .s, .is .u32, .i .i64]), (5, .lf (.i .i64)), (8, .lf (.b)), (108, .lf (.b))], qx.j10 k⟩, ⟨[(0, .lf (.s)), (2, .bx [.b, .s, .is .u32, .i .i64]), (4, .bx [.b, .s, .is .u32, .i .i64]), (5, .lf (.i .i64)), (8, .lf (.b))], qx.j11 k⟩, ⟨[(2, .bx [.b, .s, .is .u32, .i .i64]), (4, .bx [.b, .s, .is .u32, .i .i64]), (9, .lf (.i .i64))], qx.j15 k⟩]
theorem qfD.ok : Fo 76 (sg [.lf (.i .u8)] [.lf (.i .i64)]) fun _ => qfD.f := fo 5 Tryz.func76 .z
theorem qb9.ok : Fo 113 (sg [.lf (.i .u8)] [.lf (.i .i64)]) fun _ => qb9.f := fo 5 Tryz.func113 .z
theorem qeO.ok : Fo 114 (sg [.lf (.i .u8)] [.lf (.i .u64)]) fun _ => qeO.f := fo 5 Tryz.func114 .z
theorem qdn.ok : Fo 112 (sg [.lf (.i .u8), .ag [.b, .i .i64, .i .u64]] [.lf (.i .u64)]) fun _ => qdn.f := fo 22 Tryz.func112 (.o qb9.ok (.o qeO.ok .z))
theorem qhn.ok : Fo 53 (sg [.lf (.i .u8)] [.lf (.i .u64)]) fun _ => qhn.f := fo 12 Tryz.func53 (.o qfD.ok (.o qdn.ok (.o qb9.ok .z)))
theorem qeg.ok : Fo 54 (sg [.lf (.i .u8), .lf (.b)] [.lf (.i .u64)]) fun _ => qeg.f := fo 11 Tryz.func54 (.o qfD.ok (.o qdn.ok .z))
theorem qeP.ok : Fo 55 (sg [.lf (.i .u8), .lf (.i .u64), .lf (.b)] [.lf (.i .u64)]) fun _ => qeP.f := fo 17 Tryz.func55 (.o qeO.ok .z)
theorem qeQ.ok : Fo 73 (sg [.lf (.is .u32), .lf (.i .i64)] [.lf (.i .u32)]) fun _ => qeQ.f := fo 23 Tryz.func73 .z
theorem qaS.ok : Fo 138 (sg [.lf (.is .u32)] [.lf (.i .i64)]) qaS.f := fo 31 Tryz.func138 (.o qeQ.ok .z) [[tt, tt, ff, ff]] fun k => [⟨[(0, .lf (.is .u32)), (3, .lf (.i .i64))], qaS.l0 k⟩]
theorem qar.ok : Fo 142 (sg [.lf (.is .u32)] [.lf (.i .i64)]) qar.f := fo 25 Tryz.func142 .z [[tt, tt, tt, ff, tt, ff]] fun k => [⟨[(3, .lf (.i .i64)), (4, .lf (.i .u32))], qar.l0 k⟩]
theorem qR.ok : Fo 132 (sg [.ow .u32] [.ow .u32]) qR.f := fo 21 Tryz.func132 .z [[tt, tt, ff, ff]] fun k => [⟨[(0, .ow .u32), (3, .lf (.i .i64))], qR.l0 k⟩]
theorem qR.ok1 : Fo 132 (sg [.lf (.is .u32)] [.lf (.is .u32)]) qR.f := fo 21 Tryz.func132 .z [[tt, tt, ff, ff]] fun k => [⟨[(0, .lf (.is .u32)), (3, .lf (.i .i64))], qR.l0 k⟩]
theorem qaA.ok : Fo 139 (sg [.lf (.is .u32), .lf (.i .i64)] [.lf (.is .u32), .lf (.b)]) qaA.f := fo 63 Tryz.func139 (.t qR.ok qR.ok1 (.o qaS.ok (.o qar.ok .z))) [[tt, tt, tt, tt, tt, ff, tt, ff]] fun k => [⟨[(0, .lf (.is .u32)), (6, .lf (.b)), (7, .ow .u32), (8, .lf (.i .i64)), (9, .lf (.i .i64))], qaA.l0 k⟩]
theorem qaB.ok : Fo 79 (sg [.lf (.b), .lf (.is .u32), .lf (.i .i64)] [.ag [.b, .is .u32, .i .i64]]) qaB.f := fo 28 Tryz.func79 (.o qaS.ok (.o qaA.ok .z))
theorem qeR.ok : Fo 126 (sg [.lf (.i .u64)] [.lf (.is .u32)]) qeR.f := fo 10 Tryz.func126 (.t qR.ok qR.ok1 .z)
theorem q4.ok : Fo 140 (sg [.lf (.is .u32), .lf (.is .u32)] [.lf (.is .u32)]) q4.f := fo 85 Tryz.func140 (.t qR.ok qR.ok1 .z) [[tt, tt, tt, tt, tt, ff, tt, ff], [tt, tt, tt, tt, tt, ff, tt, ff, ff, tt, ff, ff, tt, tt, ff, tt, ff], [tt, tt, tt, tt, tt, ff, tt, ff, ff, tt, ff, ff, tt, tt]] fun k => [⟨[(0, .lf (.is .u32)), (1, .lf (.is .u32)), (5, .ow .u32), (6, .lf (.i .u64)), (7, .lf (.i .u64)), (8, .lf (.i .i64))], q4.l0 k⟩, ⟨[(0, .lf (.is .u32)), (1, .lf (.is .u32)), (5, .ow .u32), (6, .lf (.i .u64)), (7, .lf (.i .u64)), (8, .lf (.i .i64)), (10, .lf (.i .i64))], q4.l1 k⟩, ⟨[(0, .lf (.is .u32)), (1, .lf (.is .u32)), (5, .ow .u32), (6, .lf (.i .u64)), (7, .lf (.i .u64)), (8, .lf (.i .i64)), (9, .lf (.i .i64))], q4.j3 k⟩]
theorem qa8.ok : Fo 141 (sg [.lf (.i .u32), .lf (.i .i64)] [.lf (.is .u32)]) qa8.f := fo 27 Tryz.func141 (.o qeR.ok (.o q4.ok .z)) [[tt, tt, tt, ff, ff], [tt, tt, tt, ff, ff, ff, tt, ff, tt]] fun k => [⟨[(1, .lf (.i .i64)), (5, .lf (.is .u32)), (6, .lf (.is .u32))], qa8.l0 k⟩, ⟨[(1, .lf (.i .i64)), (5, .lf (.is .u32)), (6, .lf (.is .u32))], qa8.j1 k⟩]
theorem qfE.ok : Fo 81 (sg [.lf (.i .i64)] [.ag [.b, .is .u32, .i .i64]]) qfE.f := fo 6 Tryz.func81 (.o qaB.ok (.o qa8.ok .z))
theorem qfF.ok : Fo 80 (sg [.ag [.b, .is .u32, .i .i64], .ag [.b, .is .u32, .i .i64]] [.ag [.b, .is .u32, .i .i64]]) qfF.f := fo 21 Tryz.func80 (.o qaB.ok (.o q4.ok .z))
theorem qcy.ok : Fo 82 (sg [.ag [.b, .is .u32, .i .i64]] [.lf (.i .i64)]) fun _ => qcy.f := fo 9 Tryz.func82 .z
theorem qbh.ok : Fo 83 (sg [.ag [.b, .is .u32, .i .i64]] [.lf (.i .i64)]) qbh.f := fo 13 Tryz.func83 (.o qar.ok .z)
theorem qcY.ok : Fo 127 (sg [.lf (.i .u8)] [.lf (.i .i64)]) fun _ => qcY.f := fo 5 Tryz.func127 .z
theorem qdo.ok : Fo 133 (sg [.ag [.b, .is .u32, .i .i64], .lf (.i .i64)] [.ag [.b, .is .u32, .i .i64]]) fun _ => qdo.f := fo 15 Tryz.func133 .z
theorem q5.ok : Fo 71 (sg [.lf (.is .u32), .lf (.is .u32)] [.lf (.is .u32)]) q5.f := fo 55 Tryz.func71 (.t qR.ok qR.ok1 .z) [[tt, tt, tt, ff, tt, ff], [tt, tt, tt, ff, tt, ff, ff, tt, ff, ff, tt], [tt, tt, tt, ff, tt, ff, ff, tt, ff, ff, tt, tt]] fun k => [⟨[(0, .lf (.is .u32)), (1, .lf (.is .u32)), (5, .ow .u32), (6, .lf (.i .u64)), (7, .lf (.i .i64))], q5.l0 k⟩, ⟨[(0, .lf (.is .u32)), (1, .lf (.is .u32)), (5, .ow .u32), (6, .lf (.i .u64)), (7, .lf (.i .i64))], q5.j2 k⟩, ⟨[(0, .lf (.is .u32)), (1, .lf (.is .u32)), (5, .ow .u32), (6, .lf (.i .u64)), (7, .lf (.i .i64))], q5.j3 k⟩]
theorem qeS.ok : Fo 229 (sg [.ag [.b, .is .u32, .i .i64]] [.ag [.b, .is .u32, .i .i64]]) qeS.f := fo 30 Tryz.func229 (.o q5.ok (.o qaB.ok (.o qaA.ok .z)))
theorem qcz.ok : Fo 231 (sg [.lf (.is .u32), .lf (.is .u32)] [.lf (.b)]) qcz.f := fo 26 Tryz.func231 .z [[tt, tt, ff, tt, ff]] fun k => [⟨[(0, .lf (.is .u32)), (1, .lf (.is .u32)), (5, .lf (.i .i64))], qcz.l0 k⟩]
theorem qdM.ok : Fo 178 (sg [.ag [.b, .is .u32, .i .i64], .ag [.b, .is .u32, .i .i64]] [.lf (.b)]) qdM.f := fo 24 Tryz.func178 (.o qcz.ok .z)
theorem qeT.ok : Fo 192 (sg [.lf (.i .i64)] [.ag [.b, .is .u32, .i .i64]]) fun _ => qeT.f := fo 6 Tryz.func192 .z
theorem qa2.ok : Fo 130 (sg [.lf (.is .u32), .lf (.i .i64)] [.lf (.is .u32)]) qa2.f := fo 45 Tryz.func130 (.t qR.ok qR.ok1 .z) [[tt, tt, tt, tt, tt, ff, tt, ff]] fun k => [⟨[(0, .lf (.is .u32)), (5, .ow .u32), (6, .lf (.i .i64)), (7, .lf (.i .u64)), (8, .lf (.i .i64))], qa2.l0 k⟩]
theorem qb1.ok : Fo 194 (sg [.lf (.is .u32), .lf (.is .u32)] [.lf (.i .i64)]) qb1.f := fo 41 Tryz.func194 .z [[tt, tt, ff, tt, ff]] fun k => [⟨[(0, .lf (.is .u32)), (1, .lf (.is .u32)), (5, .lf (.i .i64))], qb1.l0 k⟩]
theorem qaa.ok : Fo 195 (sg [.lf (.is .u32), .lf (.is .u32)] [.lf (.is .u32)]) qaa.f := fo 47 Tryz.func195 (.t qR.ok qR.ok1 .z) [[tt, tt, tt, ff, tt, ff], [tt, tt, tt, ff, tt, ff, ff, tt, ff, ff, tt, tt], [tt, tt, tt, ff, tt, ff, ff, tt, ff, ff, tt, tt, tt, tt, tt]] fun k => [⟨[(0, .lf (.is .u32)), (1, .lf (.is .u32)), (5, .ow .u32), (6, .lf (.i .u64)), (7, .lf (.i .i64))], qaa.l0 k⟩, ⟨[(0, .lf (.is .u32)), (1, .lf (.is .u32)), (5, .ow .u32), (7, .lf (.i .i64)), (8, .lf (.i .u64))], qaa.j1 k⟩, ⟨[(0, .lf (.is .u32)), (1, .lf (.is .u32)), (5, .ow .u32), (6, .lf (.i .u64)), (7, .lf (.i .i64)), (8, .lf (.i .u64)), (9, .lf (.i .u64))], qaa.j2 k⟩]
theorem qbw.ok : Fo 143 (sg [.ag [.b, .is .u32, .i .i64], .ag [.b, .is .u32, .i .i64]] [.ag [.b, .is .u32, .i .i64]]) qbw.f := fo 70 Tryz.func143 (.o q5.ok (.o qaB.ok (.o qa2.ok (.o qb1.ok (.o qaa.ok .z))))) [[tt, tt, tt, tt, tt]] fun k => [⟨[(2, .bx [.b, .is .u32, .i .i64]), (3, .bx [.b, .is .u32, .i .i64]), (4, .bx [.b, .is .u32, .i .i64]), (5, .lf (.i .i64))], qbw.j2 k⟩]
theorem qgm.ok : Fo 144 (sg [.ag [.b, .is .u32, .i .i64]] [.ag [.b, .is .u32, .i .i64]]) fun _ => qgm.f := fo 12 Tryz.func144 .z
theorem qcZ.ok : Fo 84 (sg [.ag [.b, .is .u32, .i .i64], .ag [.b, .is .u32, .i .i64]] [.ag [.b, .is .u32, .i .i64]]) qcZ.f := fo 9 Tryz.func84 (.o qbw.ok (.o qgm.ok .z))
theorem qfG.ok : Fo 25 (sg [.ag [.b, .is .u32, .i .i64], .ag [.b, .is .u32, .i .i64]] [.lf (.i .i64)]) qfG.f := fo 36 Tryz.func25 (.o qcy.ok (.o qbh.ok (.o qcZ.ok .z)))
theorem qfH.ok : Fo 230 (sg [.ag [.b, .is .u32, .i .i64]] [.ag [.b, .is .u32, .i .i64]]) fun _ => qfH.f := fo 5 Tryz.func230 (.o qdo.ok .z)
theorem qcA.ok : Fo 174 (sg [.lf (.i .u8), .ag [.b, .is .u32, .i .i64], .lf (.i .i64)] [.ag [.b, .is .u32, .i .i64]]) qcA.f := fo 71 Tryz.func174 (.o qfG.ok (.o qcZ.ok (.o qdo.ok (.o qbw.ok (.o qdM.ok (.o qeT.ok (.o qeS.ok (.o qfH.ok .z)))))))) [[tt, tt, tt, tt, tt, tt]] fun k => [⟨[(0, .lf (.i .u8)), (2, .lf (.i .i64)), (4, .bx [.b, .is .u32, .i .i64]), (6, .bx [.b, .is .u32, .i .i64]), (7, .bx [.b, .is .u32, .i .i64]), (8, .bx [.b, .is .u32, .i .i64]), (9, .bx [.b, .is .u32, .i .i64]), (10, .bx [.b, .is .u32, .i .i64])], qcA.j1 k⟩]
theorem qfI.ok : Fo 175 (sg [.lf (.i .u8)] [.lf (.i .i64)]) fun _ => qfI.f := fo 5 Tryz.func175 .z
theorem qbL.ok : Fo 176 (sg [.lf (.i .u8), .lf (.i .u8), .lf (.b)] [.lf (.i .u64)]) qbL.f := fo 31 Tryz.func176 (.o qeg.ok .z) [[tt, ff, tt]] fun k => [⟨[(0, .lf (.i .u8)), (2, .lf (.b)), (23, .lf (.b))], qbL.j0 k⟩]
theorem qho.ok : Fo 68 (sg [.ag [.b, .is .u32, .i .i64]] [.ag [.b, .is .u32, .i .i64]]) fun _ => qho.f := fo 5 Tryz.func68 .z
theorem qa3.ok : Fo 177 (sg [.lf (.i .u8), .ag [.b, .is .u32, .i .i64]] [.lf (.i .u64), .lf (.b)]) qa3.f := fo 92 Tryz.func177 (.o qcy.ok (.o qbh.ok (.o qdn.ok (.o qb9.ok (.o qcY.ok (.o qa2.ok (.o qar.ok (.o qfI.ok .z)))))))) [[tt, tt, tt, tt, tt, tt], [tt, tt, tt, tt, tt, tt, tt, tt, tt]] fun k => [⟨[(0, .lf (.i .u8)), (3, .bx [.b, .is .u32, .i .i64]), (7, .lf (.i .i64))], qa3.j3 k⟩, ⟨[(0, .lf (.i .u8)), (3, .bx [.b, .is .u32, .i .i64]), (7, .lf (.i .i64)), (9, .lf (.i .u64))], qa3.j4 k⟩]
theorem qca.ok : Fo 115 (sg [.lf (.i .u8), .lf (.i .u8), .ag [.b, .is .u32, .i .i64]] [.lf (.i .u64), .lf (.i .u8)]) qca.f := fo 73 Tryz.func115 (.o qeP.ok (.o qho.ok (.o qcy.ok (.o qbh.ok (.o qb9.ok (.o qcY.ok (.o qcA.ok (.o qfI.ok (.o qbL.ok (.o qa3.ok (.o qdM.ok .z))))))))))) [[tt, tt, tt, tt, tt, tt]] fun k => [⟨[(0, .lf (.i .u8)), (1, .lf (.i .u8)), (5, .bx [.b, .is .u32, .i .i64]), (8, .lf (.i .i64)), (9, .lf (.i .i64)), (10, .lf (.i .i64))], qca.j1 k⟩]
theorem qcB.ok : Fo 193 (sg [.lf (.is .u32), .lf (.i .u32)] [.lf (.is .u32), .lf (.is .u32)]) qcB.f := fo 43 Tryz.func193 (.o qeR.ok (.t qR.ok qR.ok1 .z)) [[tt, tt, tt, ff, tt, ff]] fun k => [⟨[(0, .lf (.is .u32)), (1, .lf (.i .u32)), (6, .ow .u32), (7, .lf (.i .u64)), (8, .lf (.i .i64))], qcB.l0 k⟩]
theorem qa4.ok : Fo 131 (sg [.lf (.is .u32), .lf (.is .u32)] [.lf (.is .u32), .lf (.is .u32)]) qa4.f := fo 75 Tryz.func131 (.o q5.ok (.o qeQ.ok (.o qa2.ok (.t qR.ok qR.ok1 (.o qaA.ok (.o qar.ok (.o qcB.ok (.o qb1.ok (.o qaa.ok .z))))))))) [[tt, tt, tt, tt, tt, ff, tt, ff], [tt, tt, tt, tt, tt, ff, tt, ff, ff, tt, ff, ff, tt, tt]] fun k => [⟨[(0, .lf (.is .u32)), (1, .lf (.is .u32)), (6, .ow .u32), (8, .lf (.is .u32)), (10, .lf (.i .i64))], qa4.l0 k⟩, ⟨[(0, .lf (.is .u32)), (1, .lf (.is .u32)), (6, .ow .u32), (8, .lf (.is .u32)), (10, .lf (.i .i64))], qa4.j2 k⟩]
theorem qfJ.ok : Fo 232 (sg [.ag [.b, .is .u32, .i .i64], .lf (.i .i64)] [.ag [.b, .is .u32, .i .i64], .lf (.b)]) qfJ.f := fo 33 Tryz.func232 (.o qaB.ok (.o qaA.ok (.o qar.ok .z)))
theorem qc0.ok : Fo 179 (sg [.ag [.b, .is .u32, .i .i64], .ag [.b, .is .u32, .i .i64], .lf (.i .i64)] [.ag [.b, .is .u32, .i .i64], .lf (.b)]) qc0.f := fo 66 Tryz.func179 (.o qaB.ok (.o qa2.ok (.o qa4.ok (.o qar.ok (.o qfJ.ok .z))))) [[tt, tt, tt, tt]] fun k => [⟨[(2, .lf (.i .i64)), (3, .bx [.b, .is .u32, .i .i64]), (4, .bx [.b, .is .u32, .i .i64]), (6, .bx [.b, .is .u32, .i .i64]), (8, .lf (.i .i64))], qc0.j1 k⟩]
theorem qeU.ok : Fo 180 (sg [.ag [.b, .is .u32, .i .i64], .lf (.b)] [.ag [.b, .is .u32, .i .i64]]) qeU.f := fo 22 Tryz.func180 (.o qbh.ok (.o qcZ.ok (.o qbw.ok (.o qeT.ok .z))))
theorem qgn.ok : Fo 116 (sg [.lf (.i .u8), .lf (.i .u8), .ag [.b, .is .u32, .i .i64], .ag [.b, .is .u32, .i .i64]] [.lf (.i .u64), .lf (.i .u8)]) qgn.f := fo 26 Tryz.func116 (.o qca.ok (.o qc0.ok (.o qeU.ok .z)))
theorem qbi.ok : Fo 56 (sg [.lf (.i .u8), .lf (.i .u8), .lf (.b), .lf (.is .u32), .lf (.i .i64)] [.lf (.i .u64), .lf (.i .u8)]) qbi.f := fo 40 Tryz.func56 (.o qaB.ok (.o qfF.ok (.o qfE.ok (.o qca.ok (.o qgn.ok .z))))) [[tt, tt], [tt, tt, tt]] fun k => [⟨[(0, .lf (.i .u8)), (1, .lf (.i .u8)), (2, .lf (.b)), (3, .lf (.is .u32)), (4, .lf (.i .i64))], qbi.j0 k⟩, ⟨[(0, .lf (.i .u8)), (1, .lf (.i .u8)), (2, .lf (.b)), (3, .lf (.is .u32)), (4, .lf (.i .i64))], qbi.j1 k⟩]
theorem qgo.ok : Fo 17 (sg [.lf (.i .u8), .lf (.i .u8), .lf (.s)] [.lf (.i .u64), .lf (.i .u8), .lf (.i .i64)]) qgo.f := fo 57 Tryz.func17 (.o qx.ok (.o qhn.ok (.o qeg.ok (.o qeP.ok (.o qbi.ok .z)))))
theorem qhp.ok : Fo 3 (sg [.lf (.i .u8), .lf (.i .u8), .lf (.s)] [.lf (.b)]) qhp.f := fo 65 Tryz.func3 (.o qdm.ok (.o qcx.ok (.o qeN.ok (.o qgo.ok .z))))
end Go.Proofs.YtnkpmjhlkmlmbaaGreatDoor.Eng
