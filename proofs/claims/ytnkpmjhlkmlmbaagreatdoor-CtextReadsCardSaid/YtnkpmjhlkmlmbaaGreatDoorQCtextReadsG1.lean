import Derived.Test.YtnkpmjhlkmlmbaaGreatDoorQCtextReadsF1
import Derived.Tactics
import Derived.BigQuiet
import Derived.WalkKit
import Derived.OwnWalk
import Derived.Lib.TrailingZeros
import Derived.Shelf.Lay
import Derived.Ground.NamesProg
import Derived.Shelf.Strings.Search1
import Derived.Shelf.Strconv.Atoi
import Derived.Lib.AtoiErrMem
import Derived.Shelf.Strings.Repeat
import Derived.Shelf.Small.Strs
import Derived.Shelf.Spec.TrailingZeros
import Derived.Shelf.Lays7
import Derived.Shelf.Strings.Builder1
import Derived.BigCall
import Derived.BigRegion
import Derived.RegionCalls
set_option linter.unusedVariables false
set_option linter.unusedSimpArgs false
namespace Go.Proofs.YtnkpmjhlkmlmbaaGreatDoor.Eng
open Go.RowKit Go.Proofs Go
set_option maxRecDepth 100000
def zic (w : World) : Prop := ∀ j, j < 32 → w.cell? ⟨5, j, none⟩ = some (.int .u8 (Lib.deBruijn32tab.getD j 0))
theorem zpA (x k idx : Nat) (w : World) (hx0 : ((x : Int) == 0) = false)
  (key : bits BinOp.and IntKind.u32 (x : Int) (-(x : Int) % 4294967296) * 125613361 % 4294967296 / 134217728 = (idx : Int))
  (hi : idx < 32) (hk : k < 32) (hcell : w.cell? ⟨5, idx, none⟩ = some (.int .u8 k)) :
  Calls Tryz.prog 218 #[.int .u32 x] w fun e w' => e = .returned (.int .i64 k) ∧ w' = w := by
 go_enter Tryz.func218, Tryz.ntmps218
 go_wp2_with (simp only [key])
 go_ret
 exact ⟨rfl, rfl⟩
theorem zpD (w : World) : Calls Tryz.prog 218 #[.int .u32 0] w fun e w' => e = .returned (.int .i64 32) ∧ w' = w := by
 go_enter Tryz.func218, Tryz.ntmps218
 go_wp2
 go_ret
 exact ⟨rfl, rfl⟩
theorem zlQ (a b : Nat) (ha : a < 4294967296) (hb : b < 4294967296) : bits .and .u32 (a : Int) (b : Int) = ((a &&& b : Nat) : Int) := by
 have hx : a &&& b < 2 ^ 32 := Nat.and_lt_two_pow _ (by omega)
 have h1 : (BitVec.ofInt 32 (a : Int)).toNat = a := by
  rw [BitVec.ofInt_natCast, BitVec.toNat_ofNat]; exact Nat.mod_eq_of_lt (by omega)
 have h2 : (BitVec.ofInt 32 (b : Int)).toNat = b := by
  rw [BitVec.ofInt_natCast, BitVec.toNat_ofNat]; exact Nat.mod_eq_of_lt (by omega)
 show IntKind.u32.wrap ((BitVec.ofInt 32 (a : Int) &&& BitVec.ofInt 32 (b : Int)).toNat : Int) = _
 have h3 : ∀ n : Int, IntKind.u32.wrap n = n % 4294967296 := fun n => by simp [IntKind.wrap, IntKind.signed, IntKind.bits]
 rw [BitVec.toNat_and, h1, h2, h3]
 omega
theorem zpC (x a : Nat) (hx : x < 4294967296) (hx0 : x ≠ 0) (hlow : x &&& (4294967296 - x) = a) :
  bits BinOp.and IntKind.u32 (x : Int) (-(x : Int) % 4294967296) * 125613361 % 4294967296 / 134217728 = ((a * 125613361 % 4294967296 / 134217728 : Nat) : Int) := by
 have e1 : -(x : Int) % 4294967296 = ((4294967296 - x : Nat) : Int) := by omega
 rw [e1, zlQ x _ hx (by omega), hlow]
 omega
theorem zpz (a0 r : Int) (w : World) (hT : zic w) (h : zbo.f a0 = some r) :
  Calls Tryz.prog 218 #[.int .u32 a0] w fun e w' => e = .returned (.int .i64 r) ∧ w' = w := by
 unfold zbo.f at h
 split at h
 case isFalse => cases h
 rename_i hx
 obtain ⟨x, rfl⟩ := Int.eq_ofNat_of_zero_le hx.1
 obtain rfl := Option.some.inj h
 rw [Int.toNat_natCast]
 by_cases hx0 : x = 0
 ·subst hx0
  exact zpD w
 ·obtain ⟨hlow, hk⟩ := Lib.lowest_bit 32 x hx0 (by omega)
  obtain ⟨hi, htab⟩ := Lib.deBruijn32_at _ hk
  have hcell := hT _ hi
  rw [htab] at hcell
  exact zpA x _ _ w (by simp; omega) (zpC x _ (by omega) hx0 hlow) hi hk hcell
theorem zbo.ok : ∀ k, qJ Tryz.prog za0 218 (zbo.F k) := by
 intro k
 refine ⟨⟨Tryz.f218, qdF Tryz.f218, Tryz.func218, by kernel_rfl, by kernel_rfl⟩, rfl, rfl, fun M φ w args ls r hgl hc hr => ?_⟩
 have hlf := qap hr
 obtain ⟨x, rfl⟩ : ∃ x, ls = [.int .u32 x] := by
  clear hc hr
  obtain ⟨y, rfl⟩ := List.length_eq_one_iff.1 (qaq hlf).1
  simp only [zbo.F, qo, qB, qe, qA, Bool.and_true, List.append_nil] at hlf
  cases y <;> first | (cases hlf; done) | exact ⟨_, by rw [← qF hlf]⟩
 have hr : zbo.f x = some r := hr
 have ha : args = #[.int .u32 x] := by
  have hs := hc.size
  have hs : args.size = 1 := hs
  have h1 := (hc.args 0 args[0] (by simp [hs])).1
  apply Array.ext
  ·simp [hs]
  ·intro i h1' h2'
   have : i = 0 := by simp at h2'; omega
   subst this
   exact h1
 have hT : zic w := fun j hj => hc.rel.holds 5 j _ (hgl 5 j _ (by unfold za0; rw [if_pos ⟨rfl, hj⟩]))
 subst ha
 refine (zpz x r w hT hr).mono fun e w' h => ⟨_, h.1, rfl, M, φ, ⟨rfl, qbO _⟩, ?_, ?_, qp.refl φ⟩
 ·rw [h.2]; exact hc.rel
 ·rw [h.2]; exact Stp.refl M φ _ w
end Go.Proofs.YtnkpmjhlkmlmbaaGreatDoor.Eng
namespace Go.Proofs
open Go.Shelf
shelf_lay Lays.n217 Nm 217 at Tryz as Tryz.layIndexByte
shelf_lay Lays.n172 Nm 172 at Tryz as Tryz.layAtoi
shelf_lay Lays.n105 Nm 105 at Tryz as Tryz.layRepeat
theorem Tryz.extraRepeat : Builder.Extra Tryz.prog Tryz.layRepeat_ren where
 sizeBuilder := by kernel_rfl
 liesBuilder := by kernel_rfl
 t5 := Tryz.layRepeat.t5
 a5 := Tryz.layRepeat.a5
 z5 := Tryz.layRepeat.z5
 v5 := Tryz.layRepeat.v5
 infoByte := by kernel_rfl
 cellsByte := by kernel_rfl
 sizeByte := by kernel_rfl
 neB5 := by decide
shelf_lay Lays.n106 Nm 106 at Tryz as Tryz.layCompare
shelf_lay Lays7.n27 Nm7 27 at Tryz as Tryz.layTz
end Go.Proofs
namespace Go.Proofs.YtnkpmjhlkmlmbaaGreatDoor.Eng
open Go.RowKit Go.Proofs
set_option maxRecDepth 100000
theorem znK (s : ByteArray) : qea [.str s] := fun k n hm => by cases List.mem_singleton.1 hm
theorem zhf (n : Int) : qea [.int .i64 n] := fun k m hm => by cases List.mem_singleton.1 hm; exact qbO _
theorem znc {ls : List V} (h : qe [.s, .i .i64] ls = true) : ∃ s c, ls = [.str s, .int .i64 c] := by
 match ls, h with
 | [a, b], h =>
  simp only [qe, Bool.and_true, Bool.and_eq_true] at h
  obtain ⟨h1, h2⟩ := h
  cases a <;> first | (cases h1; done) | skip
  cases b <;> first | (cases h2; done) | skip
  rw [← qF h2]
  exact ⟨_, _, rfl⟩
 | [_], h => simp [qe] at h
 | [], h => cases h
 | _ :: _ :: _ :: _, h => simp [qe] at h
theorem zne {ls : List V} (h : qe [.s, .i .u8] ls = true) : ∃ s c, ls = [.str s, .int .u8 c] := by
 match ls, h with
 | [a, b], h =>
  simp only [qe, Bool.and_true, Bool.and_eq_true] at h
  obtain ⟨h1, h2⟩ := h
  cases a <;> first | (cases h1; done) | skip
  cases b <;> first | (cases h2; done) | skip
  rw [← qF h2]
  exact ⟨_, _, rfl⟩
 | [_], h => simp [qe] at h
 | [], h => cases h
 | _ :: _ :: _ :: _, h => simp [qe] at h
theorem znf {k : IntKind} {ls : List V} (h : qe [.i k] ls = true) : ∃ c, ls = [.int k c] := by
 match ls, h with
 | [a], h =>
  simp only [qe, Bool.and_true] at h
  cases a <;> first | (cases h; done) | skip
  rw [← qF h]
  exact ⟨_, rfl⟩
 | [], h => cases h
 | _ :: _ :: _, h => simp [qe] at h
theorem znd {ls : List V} (h : qe [.s, .s] ls = true) : ∃ s c, ls = [.str s, .str c] := by
 match ls, h with
 | [a, b], h =>
  simp only [qe, Bool.and_true, Bool.and_eq_true] at h
  obtain ⟨h1, h2⟩ := h
  cases a <;> first | (cases h1; done) | skip
  cases b <;> first | (cases h2; done) | skip
  exact ⟨_, _, rfl⟩
 | [_], h => simp [qe] at h
 | [], h => cases h
 | _ :: _ :: _ :: _, h => simp [qe] at h
theorem znb {ls : List V} (h : qe [.s] ls = true) : ∃ s, ls = [.str s] := by
 match ls, h with
 | [a], h =>
  simp only [qe, Bool.and_true] at h
  cases a <;> first | (cases h; done) | skip
  exact ⟨_, rfl⟩
 | [], h => cases h
 | _ :: _ :: _, h => simp [qe] at h
theorem zb9.ok : ∀ k, qJ Tryz.prog za0 158 (zb9.F k) := fun k => qJ.lib ⟨Tryz.f158, qdF Tryz.f158, Tryz.func158, by kernel_rfl, by kernel_rfl⟩ rfl rfl rfl (fun r => rfl) fun w ls r hw hlf hok hr => by
 obtain ⟨s, c, rfl⟩ := zne hlf
 have hr : zb9.f s c = some r := hr
 obtain rfl := Option.some.inj hr
 refine ⟨zhf _, ?_⟩
 exact (Any.stringslite_IndexByte Tryz.layIndexByte s c w).mono fun e w' ⟨he, hb⟩ => ⟨he, hb ▸ qr.refl w⟩
theorem zbG.ok : ∀ k, qJ Tryz.prog za0 101 (zbG.F k) := fun k => qJ.lib ⟨Tryz.f101, qdF Tryz.f101, Tryz.func101, by kernel_rfl, by kernel_rfl⟩ rfl rfl rfl (fun r => rfl) fun w ls r hw hlf hok hr => by
 obtain ⟨s, rfl⟩ := znb hlf
 have hr : zbG.f s = some r := hr
 unfold zbG.f at hr
 split at hr
 case isFalse => cases hr
 rename_i h
 have hi : qea ((zbG.F 0).S.un r) := by
  intro k n hm
  rcases List.mem_cons.1 hm with hm | hm
  ·cases hm; exact qbO _
  ·cases List.mem_singleton.1 hm
 refine ⟨hi, ?_⟩
 exact (Any.strconv_Atoi Tryz.layAtoi s r h hr w).mono fun e w' ⟨he, hb⟩ => ⟨he, by obtain ⟨t, rfl⟩ := hb; exact qh2 (Lib.bytesWorld_below w _ t)⟩
theorem zbb.ok : ∀ k, qJ Tryz.prog za0 124 (zbb.F k) := fun k => qJ.lib ⟨Tryz.f124, qdF Tryz.f124, Tryz.func124, by kernel_rfl, by kernel_rfl⟩ rfl rfl rfl (fun r => rfl) fun w ls r hw hlf hok hr => by
 obtain ⟨s, c, rfl⟩ := znc hlf
 have hr : zbb.f s c = some r := hr
 unfold zbb.f at hr
 split at hr
 case isFalse => cases hr
 rename_i h
 obtain rfl := Option.some.inj hr
 refine ⟨znK _, ?_⟩
 have := Any.strings_Repeat Tryz.layRepeat Tryz.extraRepeat s c.toNat w (by omega) h.2.1
 rw [Int.toNat_of_nonneg h.1] at this
 exact this.mono fun e w' ⟨he, hb⟩ => ⟨he, qh2 hb⟩
theorem zcT.ok : ∀ k, qJ Tryz.prog za0 120 (zcT.F k) := fun k => qJ.lib ⟨Tryz.f120, qdF Tryz.f120, Tryz.func120, by kernel_rfl, by kernel_rfl⟩ rfl rfl rfl (fun r => rfl) fun w ls r hw hlf hok hr => by
 obtain ⟨s, c, rfl⟩ := znd hlf
 have hr : zcT.f s c = some r := hr
 obtain rfl := Option.some.inj hr
 refine ⟨zhf _, ?_⟩
 exact (Any.strings_Compare Tryz.layCompare s c w).mono fun e w' ⟨he, hb⟩ => ⟨he, hb ▸ qr.refl w⟩
theorem zcl.ok : ∀ k, qJ Tryz.prog za0 272 (zcl.F k) := fun k => qJ.lib ⟨Tryz.f272, qdF Tryz.f272, Tryz.func272, by kernel_rfl, by kernel_rfl⟩ rfl rfl rfl (fun r => rfl) fun w ls r hw hlf hok hr => by
 obtain ⟨c, rfl⟩ := znf hlf
 have hr : zcl.f c = some r := hr
 unfold zcl.f at hr
 split at hr
 case isFalse => cases hr
 rename_i h
 obtain rfl := Option.some.inj hr
 obtain ⟨x, rfl⟩ := Int.eq_ofNat_of_zero_le h.1
 refine ⟨zhf _, ?_⟩
 refine (Any7.bits_TrailingZeros Tryz.layTz x (by omega) w fun _ => ?_).mono fun e w' ⟨he, hb⟩ => ⟨he, hb ▸ qr.refl w⟩
 intro j hj
 have hl : Lib.deBruijn64tab.length = 64 := rfl
 rw [Int.toNat_natCast] at *
 exact hw 8 j _ (by unfold za0; repeat (first | rw [if_pos ⟨rfl, by omega⟩] | rw [if_neg (by omega)]))
theorem zlv : TOk Tryz.prog TT := qh8 (by kernel_rfl)
theorem zmT : Tryz.prog.follows .mixedOrders = true := by kernel_rfl
abbrev Fo (n : Nat) (S : Sig) (f : Nat → Fn (qo S.ps) (Option S.R)) : Prop := ∀ k, qJ Tryz.prog za0 n ⟨S, f k⟩
theorem fo {n : Nat} {ps rs : List Kx} {f : Nat → Fn (qo ps) (Option (sg ps rs).R)} {G : Nat → List (Nat × List Fun)} {fn : Func}
  (nt : Nat) (hf : Tryz.prog.funcs[n]? = some fn) (gs : GP Tryz.prog za0 G) (ds : List (List Bool) := []) (H : Nat → List (qaA (sg ps rs).R) := fun _ => []) (frz : List Nat := [])
  (hname : (fn.name == "runtime.NumGoroutine") = false := by kernel_rfl) (hbody : fn.body = some (qdF fn) := by kernel_rfl) (hnt : nt = fn.ntmps := by kernel_rfl) (hr : rs.all qah = true := by kernel_rfl)
  (hck : qb7 (qaO (sg ps rs)) (zc ds (H 0)) = true := by kernel_rfl)
  (h0 : qbV (H 0) := by ((repeat (refine ⟨by ((repeat (intro _)); show _ = _; kernel_rfl), ?_⟩)); trivial))
  (hs : ∀ k, qb2 (mkC TT za0 G nt (zc ds (H 0)) frz k) (sg ps rs) (qdF fn) fn.results.toList (qaL (H k)) (zc ds (H 0)) (H (k + 1)) := by (intro k; (repeat (refine ⟨rfl, by ((repeat (intro _)); show _ = _; kernel_rfl), ?_⟩)); trivial))
  (he : ∀ k, qW (qo ps) (fun ls y => qen (mkC TT za0 G nt (zc ds (H 0)) frz k) (sg ps rs) (qdF fn) fn.results.toList (qaL (H k)) ls = y) (f k) := by ((repeat (intro _)); show _ = _; kernel_rfl)) : Fo n (sg ps rs) f :=
 qJ.mk' zlv zmT nt hf gs ds H frz hname hbody hnt hr hck h0 hs he
theorem zdW.ok : Fo 154 (sg [.lf (.i .u8)] [.ag [.i .i64, .i .i64, .i .i64], .lf (.b)]) fun _ => zdW.f := fo 12 Tryz.func154 .z
theorem zax.ok : Fo 164 (sg [.lf (.is .u32)] [.lf (.b)]) fun _ => zax.f := fo 20 Tryz.func164 .z
theorem zeZ.ok : Fo 208 (sg [.lf (.i .i64)] [.lf (.b)]) fun _ => zeZ.f := fo 9 Tryz.func208 .z
theorem zbS.ok : Fo 155 (sg [.ag [.b, .is .u32, .i .i64]] [.lf (.b)]) fun _ => zbS.f := fo 30 Tryz.func155 (.o zax.ok (.o zeZ.ok .z))
theorem zI.ok : Fo 94 (sg [.lf (.i .u8), .lf (.i .u8), .lf (.rw [.b, .is .u32, .i .i64])] [.ag [.i .i64, .i .i64, .i .i64], .lf (.i .i64)]) zI.f := fo 39 Tryz.func94 (.o zdW.ok (.o zbS.ok .z)) [[tt, tt, tt, tt, ff, tt, ff]] fun k => [⟨[(6, .bx [.i .i64, .i .i64, .i .i64]), (8, .bx [.i .i64, .i .i64, .i .i64]), (27, .lf (.rw [.b, .is .u32, .i .i64])), (28, .lf (.i .i64)), (29, .lf (.i .i64))], zI.l0 k⟩]
theorem zfw.ok : Fo 209 (sg [.lf (.i .u8)] [.ag [.i .i64, .i .i64, .i .u64], .lf (.b)]) fun _ => zfw.f := fo 12 Tryz.func209 .z
theorem zC.ok : Fo 157 (sg [.lf (.i .u8), .lf (.is .u64)] [.ag [.i .i64, .i .i64, .i .u64], .lf (.i .i64)]) zC.f := fo 35 Tryz.func157 (.o zfw.ok .z) [[tt, tt, tt, ff, tt, ff]] fun k => [⟨[(4, .bx [.i .i64, .i .i64, .i .u64]), (6, .bx [.i .i64, .i .i64, .i .u64]), (18, .lf (.is .u64)), (19, .lf (.i .i64)), (20, .lf (.i .i64))], zC.l0 k⟩]
theorem zbJ.ok : Fo 99 (sg [.ag [.i .i64, .i .i64, .i .u64]] [.lf (.i .u64)]) fun _ => zbJ.f := fo 9 Tryz.func99 .z
theorem zez.ok : Fo 156 (sg [.ag [.i .i64, .i .i64, .i .u64]] [.lf (.i .u64)]) fun _ => zez.f := fo 6 Tryz.func156 (.o zbJ.ok .z)
theorem zfs.ok : Fo 96 (sg [.lf (.i .u8), .lf (.b), .lf (.fn 156)] [.lf (.i .u64), .lf (.i .i64)]) zfs.f := fo 28 Tryz.func96 (.o zez.ok (.o zC.ok .z))
theorem zey.ok : Fo 95 (sg [.lf (.i .u8), .lf (.b)] [.lf (.i .u64), .lf (.i .i64)]) zey.f := fo 11 Tryz.func95 (.o zfs.ok .z)
theorem zfu.ok : Fo 96 (sg [.lf (.i .u8), .lf (.b), .lf (.fn 99)] [.lf (.i .u64), .lf (.i .i64)]) zfu.f := fo 28 Tryz.func96 (.o zbJ.ok (.o zC.ok .z))
theorem zdx.ok : Fo 44 (sg [.lf (.i .u8), .lf (.b)] [.lf (.i .u64), .lf (.i .i64)]) zdx.f := fo 11 Tryz.func44 (.o zfu.ok .z)
theorem zai.ok : Fo 41 (sg [.lf (.i .u8), .lf (.i .u8), .lf (.b)] [.lf (.i .u64), .lf (.i .i64)]) zai.f := fo 46 Tryz.func41 (.o zdx.ok (.o zI.ok (.o zey.ok .z))) [[tt, tt, ff, tt]] fun k => [⟨[(0, .lf (.i .u8)), (2, .lf (.b)), (35, .lf (.b))], zai.j1 k⟩]
theorem zdi.ok : Fo 206 (sg [.lf (.s), .lf (.s)] [.lf (.b)]) fun _ => zdi.f := fo 21 Tryz.func206 .z
theorem zen.ok : Fo 151 (sg [.lf (.s), .lf (.s)] [.lf (.s), .lf (.b)]) fun _ => zen.f := fo 18 Tryz.func151 (.o zdi.ok .z)
theorem zdq.ok : Fo 89 (sg [.lf (.s), .lf (.s)] [.lf (.s), .lf (.b)]) fun _ => zdq.f := fo 11 Tryz.func89 (.o zen.ok .z)
theorem zd6.ok : Fo 97 (sg [.ag [.i .i64, .i .i64, .i .u64]] [.lf (.i .u64)]) fun _ => zd6.f := fo 10 Tryz.func97 (.o zbJ.ok .z)
theorem zfv.ok : Fo 96 (sg [.lf (.i .u8), .lf (.b), .lf (.fn 97)] [.lf (.i .u64), .lf (.i .i64)]) zfv.f := fo 28 Tryz.func96 (.o zd6.ok (.o zC.ok .z))
theorem zeB.ok : Fo 42 (sg [.lf (.i .u8)] [.lf (.i .u64), .lf (.i .i64)]) zeB.f := fo 8 Tryz.func42 (.o zfv.ok .z)
theorem zdr.ok : Fo 98 (sg [.lf (.s), .lf (.i .u8)] [.lf (.i .i64)]) fun _ => zdr.f := fo 8 Tryz.func98 (.o zb9.ok .z)
theorem zal.ok : Fo 43 (sg [.bb [.s, .i .i64], .lf (.s)] [.lf (.i .u8), .lf (.b)]) zal.f := fo 47 Tryz.func43 (.o zdr.ok .z) [[tt, ff, tt]] fun k => [⟨[(0, .bb [.s, .i .i64]), (29, .lf (.b))], zal.j0 k⟩]
theorem zbh.ok : Fo 100 (sg [.bb [.s, .i .i64]] [.lf (.s)]) zbh.f := fo 59 Tryz.func100 .z [[tt, tt, ff, ff]] fun k => [⟨[(0, .bb [.s, .i .i64]), (3, .lf (.i .i64))], zbh.l0 k⟩]
theorem zQ.ok : Fo 45 (sg [.bb [.s, .i .i64]] [.lf (.s), .lf (.i .i64), .lf (.b)]) zQ.f := fo 81 Tryz.func45 (.o zal.ok (.o zbh.ok (.o zbG.ok .z))) [[tt, tt, tt, tt], [tt, tt, tt, tt, tt]] fun k => [⟨[(0, .bb [.s, .i .i64]), (5, .lf (.s)), (6, .lf (.i .i64))], zQ.j2 k⟩, ⟨[(0, .bb [.s, .i .i64]), (5, .lf (.s)), (6, .lf (.i .i64))], zQ.j6 k⟩]
theorem zbZ.ok : Fo 102 (sg [.lf (.s), .lf (.i .u8)] [.lf (.s)]) zbZ.f := fo 17 Tryz.func102 .z [[tt, ff, ff]] fun k => [⟨[(0, .lf (.s)), (1, .lf (.i .u8))], zbZ.l0 k⟩]
theorem zcf.ok : Fo 46 (sg [.lf (.s), .lf (.s)] [.lf (.s)]) zcf.f := fo 37 Tryz.func46 (.o zbZ.ok .z) [[tt, tt, ff, tt]] fun k => [⟨[(0, .lf (.s)), (1, .lf (.s)), (21, .lf (.b))], zcf.j2 k⟩]
theorem zgw.ok : Fo 106 (sg [.ag [.i .i64, .i .i64, .i .u64]] [.lf (.i .u64)]) fun _ => zgw.f := fo 3 Tryz.func106 .z
theorem zft.ok : Fo 96 (sg [.lf (.i .u8), .lf (.b), .lf (.fn 106)] [.lf (.i .u64), .lf (.i .i64)]) zft.f := fo 28 Tryz.func96 (.o zgw.ok (.o zC.ok .z))
theorem zdz.ok : Fo 47 (sg [.lf (.i .u8), .lf (.b)] [.lf (.i .u64), .lf (.i .i64)]) zdz.f := fo 11 Tryz.func47 (.o zft.ok .z)
theorem zo.ok : Fo 48 (sg [.lf (.s)] [.lf (.is .u32), .lf (.i .i64)]) zo.f := fo 107 Tryz.func48 .z [[tt, tt, ff, tt, ff], [tt, tt, tt, tt, ff, tt, ff], [tt, tt, tt, tt, ff, tt, ff, ff, tt, ff, tt, tt, tt, ff, ff], [tt, tt, tt, tt, ff, tt, ff, ff, tt, ff, tt, tt, tt, tt, ff, tt, ff], [tt, tt, tt, tt, ff, tt, ff, ff, tt, ff, tt, tt], [tt, tt, tt, tt, ff, tt, ff, ff, tt, ff, tt, tt, tt, tt, tt, tt]] fun k => [⟨[(0, .lf (.s)), (25, .lf (.i .i64)), (26, .lf (.i .i64))], zo.l0 k⟩, ⟨[(0, .lf (.s)), (5, .ow .u32), (6, .lf (.i .i64))], zo.l1 k⟩, ⟨[(0, .lf (.s)), (5, .ow .u32), (6, .lf (.i .i64)), (7, .lf (.i .i64)), (8, .lf (.i .u64)), (9, .lf (.i .u64))], zo.l2 k⟩, ⟨[(0, .lf (.s)), (5, .ow .u32), (6, .lf (.i .i64)), (8, .lf (.i .u64)), (9, .lf (.i .u64)), (75, .al 5), (76, .lf (.i .i64)), (77, .lf (.i .i64))], zo.l3 k⟩, ⟨[(0, .lf (.s)), (5, .ow .u32), (6, .lf (.i .i64)), (7, .lf (.i .i64))], zo.j7 k⟩, ⟨[(0, .lf (.s)), (5, .ow .u32), (6, .lf (.i .i64))], zo.j10 k⟩]
theorem zbl.ok : Fo 165 (sg [.lf (.is .u32)] [.lf (.i .i64)]) zbl.f := fo 23 Tryz.func165 (.o zax.ok (.o zbo.ok .z)) [[tt, tt, ff, tt, ff]] fun k => [⟨[(8, .lf (.is .u32)), (9, .lf (.i .i64)), (10, .lf (.i .i64))], zbl.l0 k⟩]
theorem zr.ok : Fo 219 (sg [.ow .u32] [.ow .u32]) zr.f := fo 21 Tryz.func219 .z [[tt, ff, ff]] fun k => [⟨[(0, .ow .u32)], zr.l0 k⟩]
theorem zr.ok1 : Fo 219 (sg [.lf (.is .u32)] [.lf (.is .u32)]) zr.f := fo 21 Tryz.func219 .z [[tt, ff, ff]] fun k => [⟨[(0, .lf (.is .u32))], zr.l0 k⟩]
theorem za9.ok : Fo 200 (sg [.lf (.is .u32), .lf (.i .i64)] [.lf (.is .u32)]) za9.f := fo 60 Tryz.func200 (.t zr.ok zr.ok1 .z) [[tt, tt, tt, tt, tt, ff, tt, ff]] fun k => [⟨[(0, .lf (.is .u32)), (5, .lf (.i .i64)), (6, .ow .u32), (23, .lf (.is .u32)), (24, .lf (.i .i64)), (25, .lf (.i .i64))], za9.l0 k⟩]
theorem zaq.ok : Fo 220 (sg [.lf (.i .u32)] [.lf (.i .i64)]) zaq.f := fo 19 Tryz.func220 .z [[tt, tt], [tt, tt, tt]] fun k => [⟨[(0, .lf (.i .u32)), (2, .lf (.i .i64))], zaq.j0 k⟩, ⟨[(0, .lf (.i .u32)), (2, .lf (.i .i64))], zaq.j1 k⟩]
theorem zaW.ok : Fo 201 (sg [.lf (.is .u32)] [.lf (.i .i64)]) zaW.f := fo 23 Tryz.func201 (.o zax.ok (.o zaq.ok .z))
theorem zba.ok : Fo 202 (sg [.lf (.is .u32), .lf (.i .i64)] [.ow .u32]) zba.f := fo 50 Tryz.func202 (.t zr.ok zr.ok1 .z) [[tt, tt, tt, tt, ff, tt, ff]] fun k => [⟨[(5, .ow .u32), (6, .lf (.i .i64)), (7, .lf (.i .u32)), (24, .lf (.is .u32)), (25, .lf (.i .i64)), (26, .lf (.i .i64))], zba.l0 k⟩]
theorem zaX.ok : Fo 146 (sg [.lf (.is .u32), .lf (.i .i64)] [.lf (.is .u32), .lf (.b), .lf (.i .i64)]) zaX.f := fo 39 Tryz.func146 (.o zax.ok (.o zbl.ok (.o za9.ok (.o zaW.ok (.o zba.ok .z)))))
theorem za6.ok : Fo 107 (sg [.lf (.b), .lf (.is .u32), .lf (.i .i64)] [.ag [.b, .is .u32, .i .i64], .lf (.i .i64)]) za6.f := fo 47 Tryz.func107 (.o zaX.ok (.o zax.ok (.o zbl.ok .z)))
theorem zbE.ok : Fo 166 (sg [.lf (.i .u64)] [.lf (.is .u32)]) zbE.f := fo 10 Tryz.func166 (.t zr.ok zr.ok1 .z)
theorem zE.ok : Fo 221 (sg [.lf (.i .u64)] [.lf (.i .i64)]) zE.f := fo 25 Tryz.func221 .z [[tt, tt], [tt, tt, tt], [tt, tt, tt, tt]] fun k => [⟨[(0, .lf (.i .u64)), (2, .lf (.i .i64))], zE.j0 k⟩, ⟨[(0, .lf (.i .u64)), (2, .lf (.i .i64))], zE.j1 k⟩, ⟨[(0, .lf (.i .u64)), (2, .lf (.i .i64))], zE.j2 k⟩]
theorem zec.ok : Fo 167 (sg [.lf (.i .u64)] [.lf (.i .i64)]) zec.f := fo 8 Tryz.func167 (.o zE.ok .z)
theorem zM.ok : Fo 168 (sg [.lf (.is .u32), .lf (.is .u32)] [.lf (.is .u32)]) zM.f := fo 68 Tryz.func168 (.t zr.ok zr.ok1 .z) [[tt, tt, ff, tt, ff], [tt, tt, ff, tt, ff, ff, tt, tt, ff, ff, tt, tt, ff, tt, ff]] fun k => [⟨[(1, .lf (.is .u32)), (5, .ow .u32), (18, .lf (.is .u32)), (19, .lf (.i .i64)), (20, .lf (.i .i64))], zM.l0 k⟩, ⟨[(1, .lf (.is .u32)), (5, .ow .u32), (6, .lf (.i .i64)), (7, .lf (.i .u32)), (8, .lf (.i .u64)), (18, .lf (.is .u32)), (19, .lf (.i .i64)), (20, .lf (.i .i64)), (25, .lf (.is .u32)), (26, .lf (.i .i64)), (27, .lf (.i .i64))], zM.l1 k⟩]
theorem zH.ok : Fo 108 (sg [.lf (.i .u32), .lf (.i .i64)] [.lf (.is .u32), .lf (.i .i64)]) zH.f := fo 55 Tryz.func108 (.o zbE.ok (.o zec.ok (.o zM.ok .z))) [[tt, tt, tt, ff, tt, ff], [tt, ff, ff, tt, tt, tt], [tt, tt, tt, ff, tt, ff, ff, tt, ff, ff, tt, tt, tt]] fun k => [⟨[(0, .lf (.i .u32)), (1, .lf (.i .i64)), (6, .lf (.is .u32)), (7, .lf (.i .i64))], zH.l0 k⟩, ⟨[(0, .lf (.i .u32)), (1, .lf (.i .i64)), (11, .lf (.b))], zH.j0 k⟩, ⟨[(0, .lf (.i .u32)), (1, .lf (.i .i64)), (6, .lf (.is .u32)), (7, .lf (.i .i64))], zH.j4 k⟩]
theorem zbi.ok : Fo 169 (sg [.lf (.rw [.b, .is .u32, .i .i64])] [.lf (.b)]) zbi.f := fo 15 Tryz.func169 (.o zbS.ok .z) [[tt, ff, tt, ff]] fun k => [⟨[(5, .lf (.rw [.b, .is .u32, .i .i64])), (6, .lf (.i .i64)), (7, .lf (.i .i64))], zbi.l0 k⟩]
theorem zan.ok : Fo 204 (sg [.lf (.rw [.is .u32])] [.lf (.b)]) zan.f := fo 15 Tryz.func204 (.o zax.ok .z) [[tt, ff, tt, ff]] fun k => [⟨[(5, .lf (.rw [.is .u32])), (6, .lf (.i .i64)), (7, .lf (.i .i64))], zan.l0 k⟩]
theorem zbm.ok : Fo 205 (sg [.ow .u32] [.ow .u32, .lf (.i .i64)]) fun _ => zbm.f := fo 8 Tryz.func205 .z
theorem zbm.ok1 : Fo 205 (sg [.lf (.is .u32)] [.lf (.is .u32), .lf (.i .i64)]) fun _ => zbm.f := fo 8 Tryz.func205 .z
theorem zdk.ok : Fo 148 (sg [.lf (.is .u32), .lf (.is .u32)] [.lf (.is .u32), .lf (.i .i64)]) zdk.f := fo 34 Tryz.func148 (.o zM.ok (.o zan.ok (.t zbm.ok zbm.ok1 .z)))
theorem zdK.ok : Fo 109 (sg [.ag [.b, .is .u32, .i .i64], .ag [.b, .is .u32, .i .i64]] [.ag [.b, .is .u32, .i .i64], .lf (.i .i64)]) zdK.f := fo 40 Tryz.func109 (.o za6.ok (.o zdk.ok (.o zbi.ok .z)))
theorem zbs.ok : Fo 170 (sg [.ag [.b, .is .u32, .i .i64]] [.lf (.i .i64)]) zbs.f := fo 16 Tryz.func170 (.o zbS.ok .z) [[tt, ff, ff, tt]] fun k => [⟨[(1, .bx [.b, .is .u32, .i .i64]), (3, .lf (.b))], zbs.j0 k⟩]
theorem zaM.ok : Fo 222 (sg [.lf (.is .u32)] [.lf (.i .u64), .lf (.b)]) zaM.f := fo 31 Tryz.func222 (.o zax.ok .z) [[tt, tt, tt, ff, tt, ff]] fun k => [⟨[(4, .lf (.i .u64)), (15, .lf (.is .u32)), (16, .lf (.i .i64)), (17, .lf (.i .i64))], zaM.l0 k⟩]
theorem zdo.ok : Fo 171 (sg [.ag [.b, .is .u32, .i .i64]] [.ag [.i .u64, .i .i64, .b]]) zdo.f := fo 33 Tryz.func171 (.o zaX.ok (.o zaW.ok (.o zaM.ok .z)))
theorem zdX.ok : Fo 250 (sg [.lf (.i .u8), .lf (.b), .lf (.b), .lf (.b), .lf (.b)] [.lf (.b)]) fun _ => zdX.f := fo 42 Tryz.func250 .z
theorem zev.ok : Fo 249 (sg [.lf (.b)] [.lf (.i .u64)]) fun _ => zev.f := fo 4 Tryz.func249 .z
theorem zay.ok : Fo 223 (sg [.ag [.i .u64, .i .i64, .b], .lf (.i .u8), .lf (.b), .lf (.i .i64)] [.lf (.i .u64), .lf (.b)]) zay.f := fo 70 Tryz.func223 (.o zev.ok (.o zdX.ok .z)) [[tt, tt, tt, tt, tt], [tt, tt, tt, tt, tt, tt]] fun k => [⟨[(1, .lf (.i .u8)), (2, .lf (.b)), (4, .bx [.i .u64, .i .i64, .b]), (10, .lf (.i .i64)), (11, .lf (.i .u64)), (12, .lf (.b)), (13, .lf (.b))], zay.j1 k⟩, ⟨[(1, .lf (.i .u8)), (2, .lf (.b)), (11, .lf (.i .u64)), (12, .lf (.b)), (13, .lf (.b))], zay.j2 k⟩]
theorem zb3.ok : Fo 199 (sg [.ag [.i .i64, .i .i64, .i .u64]] [.lf (.i .i64)]) fun _ => zb3.f := fo 10 Tryz.func199 .z
theorem zd5.ok : Fo 251 (sg [.ag [.i .i64, .i .i64, .i .u64], .ag [.b, .i .i64, .i .u64]] [.lf (.i .u64)]) fun _ => zd5.f := fo 22 Tryz.func251 .z
theorem zcW.ok : Fo 224 (sg [.lf (.i .u8), .ag [.b, .is .u32, .i .i64]] [.lf (.i .u64), .lf (.i .i64)]) zcW.f := fo 95 Tryz.func224 (.o zbS.ok (.o zC.ok (.o zb3.ok (.o zE.ok (.o zaM.ok (.o zd5.ok .z))))))
theorem zbv.ok : Fo 172 (sg [.ag [.i .u64, .i .i64, .b], .lf (.i .u8), .ag [.i .i64, .i .i64, .i .i64], .lf (.i .u8), .lf (.b)] [.lf (.i .u64), .lf (.i .u8)]) zbv.f := fo 106 Tryz.func172 (.o zai.ok (.o zdz.ok (.o za6.ok (.o zbE.ok (.o zE.ok (.o zay.ok (.o zcW.ok .z))))))) [[tt, tt, tt, tt, tt, tt, tt]] fun k => [⟨[(3, .lf (.i .u8)), (4, .lf (.b)), (5, .bx [.i .u64, .i .i64, .b]), (7, .bx [.i .i64, .i .i64, .i .i64]), (14, .lf (.b)), (19, .lf (.i .u64))], zbv.j1 k⟩]
theorem zdV.ok : Fo 110 (sg [.lf (.i .u8), .lf (.i .u8), .ag [.b, .is .u32, .i .i64]] [.lf (.i .u64), .lf (.i .u8), .lf (.i .i64)]) zdV.f := fo 40 Tryz.func110 (.o zI.ok (.o zbs.ok (.o zdo.ok (.o zbv.ok .z))))
theorem zeY.ok : Fo 225 (sg [.lf (.i .i64)] [.lf (.i .i64)]) fun _ => zeY.f := fo 9 Tryz.func225 .z
theorem zaY.ok : Fo 255 (sg [.lf (.is .u32), .lf (.is .u32)] [.lf (.i .i64)]) zaY.f := fo 43 Tryz.func255 .z [[tt, tt, ff, tt, ff]] fun k => [⟨[(0, .lf (.is .u32)), (1, .lf (.is .u32)), (5, .lf (.i .i64))], zaY.l0 k⟩]
theorem zea.ok : Fo 240 (sg [.lf (.i .u32), .lf (.i .u32), .lf (.i .u32)] [.lf (.i .u32), .lf (.i .u32)]) fun _ => zea.f := fo 33 Tryz.func240 .z
theorem zbn.ok : Fo 203 (sg [.lf (.is .u32), .lf (.i .u32)] [.lf (.is .u32), .lf (.i .u32)]) zbn.f := fo 35 Tryz.func203 (.t zr.ok zr.ok1 (.o zea.ok .z)) [[tt, tt, tt, ff, tt, ff]] fun k => [⟨[(0, .lf (.is .u32)), (1, .lf (.i .u32)), (6, .ow .u32), (7, .lf (.i .u32)), (8, .lf (.i .i64))], zbn.l0 k⟩]
theorem zeb.ok : Fo 267 (sg [.lf (.i .u32)] [.lf (.i .i64)]) zeb.f := fo 6 Tryz.func267 (.o zaq.ok .z)
theorem zcD.ok : Fo 273 (sg [.lf (.i .u32), .lf (.i .u32), .lf (.i .u32)] [.lf (.i .u32), .lf (.i .u32)]) fun _ => zcD.f := fo 25 Tryz.func273 .z
theorem zc0.ok : Fo 266 (sg [.lf (.i .u32), .lf (.i .u32), .lf (.i .u32)] [.lf (.i .u32), .lf (.i .u32)]) fun _ => zc0.f := fo 22 Tryz.func266 .z
theorem zB.ok : Fo 268 (sg [.bo .u32, .lf (.is .u32)] [.lf (.i .u32)]) zB.f := fo 160 Tryz.func268 (.o zc0.ok (.o zcD.ok .z)) [[tt, tt, tt, tt, ff, ff], [tt, tt, tt, tt, tt, tt, ff, tt, ff], [tt, tt, tt, tt, tt, tt, tt, tt, tt, tt, ff, tt, ff]] fun k => [⟨[(0, .bo .u32), (1, .lf (.is .u32)), (5, .lf (.i .i64)), (7, .lf (.i .u64)), (8, .lf (.i .u64))], zB.l0 k⟩, ⟨[(0, .bo .u32), (1, .lf (.is .u32)), (5, .lf (.i .i64)), (7, .lf (.i .u64)), (9, .lf (.i .u32)), (10, .lf (.i .u64)), (81, .lf (.is .u32)), (82, .lf (.i .i64)), (83, .lf (.i .i64))], zB.l1 k⟩, ⟨[(0, .bo .u32), (5, .lf (.i .i64)), (7, .lf (.i .u64)), (13, .lf (.i .u32)), (129, .lf (.is .u32)), (130, .lf (.i .i64)), (131, .lf (.i .i64))], zB.l2 k⟩]
theorem zao.ok : Fo 256 (sg [.lf (.is .u32), .lf (.is .u32)] [.lf (.is .u32), .lf (.is .u32)]) zao.f := fo 68 Tryz.func256 (.o za9.ok (.o zba.ok (.t zr.ok zr.ok1 (.o zeb.ok (.o zB.ok .z))))) [[tt, tt, tt, tt, ff, ff], [tt, tt, tt, tt, tt, tt, tt, ff, tt, ff]] fun k => [⟨[(0, .lf (.is .u32)), (6, .lf (.i .i64)), (7, .ow .u32), (8, .ow .u32)], zao.l0 k⟩, ⟨[(6, .lf (.i .i64)), (7, .ow .u32), (8, .ow .u32), (9, .lf (.i .i64)), (10, .ow .u32), (11, .lf (.i .i64))], zao.l1 k⟩]
theorem zdl.ok : Fo 227 (sg [.lf (.is .u32), .lf (.is .u32)] [.lf (.is .u32), .lf (.is .u32), .lf (.i .i64)]) zdl.f := fo 49 Tryz.func227 (.o zbn.ok (.o zan.ok (.t zr.ok zr.ok1 (.o zaY.ok (.o zao.ok .z)))))
theorem zbV.ok : Fo 265 (sg [.lf (.is .u32), .lf (.is .u32)] [.lf (.is .u32)]) zbV.f := fo 41 Tryz.func265 (.t zr.ok zr.ok1 (.o zcD.ok .z)) [[tt, tt, tt, ff, tt, ff], [tt, tt, tt, ff, tt, ff, ff, tt, tt, ff, ff, tt, tt, tt]] fun k => [⟨[(0, .lf (.is .u32)), (1, .lf (.is .u32)), (5, .ow .u32), (6, .lf (.i .u32)), (13, .lf (.i .i64)), (14, .lf (.i .i64))], zbV.l0 k⟩, ⟨[(0, .lf (.is .u32)), (1, .lf (.is .u32)), (5, .ow .u32), (6, .lf (.i .u32)), (7, .lf (.i .i64)), (8, .lf (.i .u32)), (13, .lf (.i .i64)), (14, .lf (.i .i64))], zbV.j1 k⟩]
theorem zfc.ok : Fo 252 (sg [.lf (.is .u32), .lf (.is .u32)] [.lf (.is .u32), .lf (.i .i64)]) zfc.f := fo 18 Tryz.func252 (.o zan.ok (.o zaY.ok (.o zbV.ok .z)))
theorem zf5.ok : Fo 253 (sg [.lf (.is .u32), .lf (.is .u32)] [.lf (.i .i64), .lf (.i .i64)]) zf5.f := fo 14 Tryz.func253 (.o zan.ok (.o zaY.ok .z))
theorem zaV.ok : Fo 254 (sg [.lf (.is .u32), .lf (.is .u32)] [.lf (.is .u32), .lf (.i .i64)]) zaV.f := fo 63 Tryz.func254 (.o zan.ok (.t zbm.ok zbm.ok1 (.t zr.ok zr.ok1 (.o zc0.ok .z)))) [[tt, tt, tt, tt, tt, ff, tt, ff], [tt, tt, tt], [tt, tt, tt, tt, tt, ff, tt, ff, ff, tt, tt, ff, ff, tt, tt, tt]] fun k => [⟨[(0, .lf (.is .u32)), (1, .lf (.is .u32)), (6, .ow .u32), (7, .lf (.i .u32)), (27, .lf (.i .i64)), (28, .lf (.i .i64))], zaV.l0 k⟩, ⟨[(0, .lf (.is .u32)), (1, .lf (.is .u32))], zaV.j1 k⟩, ⟨[(0, .lf (.is .u32)), (1, .lf (.is .u32)), (6, .ow .u32), (7, .lf (.i .u32)), (8, .lf (.i .i64)), (9, .lf (.i .u32)), (27, .lf (.i .i64)), (28, .lf (.i .i64))], zaV.j3 k⟩]
theorem zcL.ok : Fo 228 (sg [.lf (.b), .lf (.is .u32), .lf (.i .i64), .lf (.b), .lf (.i .i64)] [.ag [.b, .is .u32, .i .i64], .lf (.b), .lf (.i .i64)]) zcL.f := fo 49 Tryz.func228 (.o za6.ok (.o zaX.ok (.o zaW.ok .z)))
theorem za7.ok : Fo 226 (sg [.ag [.b, .is .u32, .i .i64], .ag [.b, .is .u32, .i .i64], .lf (.i .i64)] [.ag [.b, .is .u32, .i .i64], .lf (.b), .lf (.i .i64)]) za7.f := fo 119 Tryz.func226 (.o zaX.ok (.o zbE.ok (.o zaW.ok (.o zdl.ok (.o zcL.ok (.o zfc.ok (.o zf5.ok (.o zaV.ok .z)))))))) [[tt, tt, tt, tt, tt, ff, ff], [tt, tt, tt, tt, tt, ff, ff, ff, tt, ff, tt, tt, ff, tt, tt], [tt, tt, tt, tt, tt, ff, ff, ff, tt, ff, tt, tt, tt]] fun k => [⟨[(2, .lf (.i .i64)), (3, .bx [.b, .is .u32, .i .i64]), (4, .bx [.b, .is .u32, .i .i64]), (6, .bx [.b, .is .u32, .i .i64]), (13, .lf (.is .u32)), (14, .lf (.is .u32)), (16, .lf (.i .i64))], za7.l0 k⟩, ⟨[(2, .lf (.i .i64)), (3, .bx [.b, .is .u32, .i .i64]), (4, .bx [.b, .is .u32, .i .i64]), (6, .bx [.b, .is .u32, .i .i64]), (13, .lf (.is .u32)), (14, .lf (.is .u32)), (16, .lf (.i .i64)), (17, .lf (.is .u32)), (19, .lf (.i .u64)), (76, .lf (.b))], za7.j2 k⟩, ⟨[(2, .lf (.i .i64)), (3, .bx [.b, .is .u32, .i .i64]), (4, .bx [.b, .is .u32, .i .i64]), (6, .bx [.b, .is .u32, .i .i64]), (13, .lf (.is .u32)), (14, .lf (.is .u32)), (16, .lf (.i .i64)), (19, .lf (.i .u64))], za7.j3 k⟩]
theorem zb7.ok : Fo 173 (sg [.ag [.b, .is .u32, .i .i64], .ag [.b, .is .u32, .i .i64], .lf (.i .i64)] [.ag [.b, .is .u32, .i .i64], .lf (.b), .lf (.i .i64)]) zb7.f := fo 106 Tryz.func173 (.o zaX.ok (.o zbi.ok (.o zaW.ok (.o zeY.ok (.o za7.ok (.o zdl.ok (.o zcL.ok .z))))))) [[tt, ff, tt]] fun k => [⟨[(2, .lf (.i .i64)), (3, .bx [.b, .is .u32, .i .i64]), (4, .bx [.b, .is .u32, .i .i64]), (6, .bx [.b, .is .u32, .i .i64]), (24, .lf (.b))], zb7.j0 k⟩]
theorem zbY.ok : Fo 111 (sg [.lf (.i .u8), .lf (.i .u8), .ag [.b, .is .u32, .i .i64], .ag [.b, .is .u32, .i .i64]] [.lf (.i .u64), .lf (.i .u8), .lf (.i .i64)]) zbY.f := fo 85 Tryz.func111 (.o zI.ok (.o zbs.ok (.o zdo.ok (.o zbv.ok (.o zb7.ok .z))))) [[tt, tt, tt, tt, tt, tt, tt]] fun k => [⟨[(0, .lf (.i .u8)), (1, .lf (.i .u8)), (6, .bx [.b, .is .u32, .i .i64]), (7, .bx [.b, .is .u32, .i .i64]), (11, .bx [.i .i64, .i .i64, .i .i64]), (13, .lf (.b)), (17, .bx [.i .u64, .i .i64, .b])], zbY.j1 k⟩]
theorem zdf.ok : Fo 49 (sg [.lf (.i .u8), .lf (.i .u8), .lf (.b), .lf (.is .u32), .lf (.i .i64)] [.lf (.i .u64), .lf (.i .u8), .lf (.i .i64)]) zdf.f := fo 77 Tryz.func49 (.o za6.ok (.o zH.ok (.o zdK.ok (.o zdV.ok (.o zbY.ok .z)))))
theorem zcr.ok : Fo 14 (sg [.lf (.i .u8), .lf (.i .u8), .lf (.s)] [.lf (.i .u64), .lf (.i .u8), .lf (.i .i64)]) zcr.f := fo 103 Tryz.func14 (.o zai.ok (.o zeB.ok (.o zal.ok (.o zdx.ok (.o zQ.ok (.o zcf.ok (.o zdz.ok (.o zo.ok (.o zdf.ok .z)))))))))
theorem za3.ok : Fo 152 (sg [.lf (.s)] [.lf (.i .i64)]) za3.f := fo 29 Tryz.func152 .z [[tt, ff, tt, ff]] fun k => [⟨[(0, .lf (.s)), (3, .lf (.i .i64))], za3.l0 k⟩]
theorem zeo.ok : Fo 150 (sg [.lf (.s), .lf (.s)] [.lf (.b)]) fun _ => zeo.f := fo 18 Tryz.func150 .z
theorem zcU.ok : Fo 88 (sg [.lf (.s), .lf (.s)] [.lf (.b)]) fun _ => zcU.f := fo 8 Tryz.func88 (.o zeo.ok .z)
theorem zcC.ok : Fo 181 (sg [.ag [.i .i64, .i .i64, .i .u64], .lf (.i .u64)] [.lf (.i .u8)]) fun _ => zcC.f := fo 29 Tryz.func181 (.o zbJ.ok .z)
theorem zfr.ok : Fo 242 (sg [.ag [.i .i64, .i .i64, .i .u64], .ip [.i .u64]] [.lf (.i .u64)]) fun _ => zfr.f := fo 8 Tryz.func242 .z
theorem zeE.ok : Fo 241 (sg [.lf (.i .u8), .lf (.i .u64), .cl 242 [[.i .u64]]] [.lf (.i .u64), .lf (.i .i64)]) zeE.f := fo 29 Tryz.func241 (.o zd6.ok (.o zC.ok (.o zcC.ok (.o zfr.ok .z))))
theorem zeA.ok : Fo 207 (sg [.lf (.i .u8), .lf (.i .u64)] [.lf (.i .u64), .lf (.i .i64)]) zeA.f := fo 12 Tryz.func207 (.o zeE.ok .z) (frz := [3])
theorem zx.ok : Fo 153 (sg [.ag [.i .u8, .i .u8], .lf (.s)] [.lf (.i .u64), .lf (.i .u8), .lf (.b)]) zx.f := fo 63 Tryz.func153 (.o zcr.ok (.o zcU.ok (.o zeA.ok .z))) [[tt, tt, tt, tt, tt], [tt, tt, tt, tt, tt, tt, ff, tt], [tt, tt, tt, tt, tt, tt, tt]] fun k => [⟨[(1, .lf (.s)), (2, .bx [.i .u8, .i .u8]), (7, .lf (.s)), (8, .lf (.i .u8))], zx.j3 k⟩, ⟨[(2, .bx [.i .u8, .i .u8]), (9, .lf (.i .u64)), (10, .lf (.i .u8)), (11, .lf (.i .i64)), (51, .lf (.b))], zx.j4 k⟩, ⟨[(9, .lf (.i .u64)), (10, .lf (.i .u8)), (11, .lf (.i .i64))], zx.j5 k⟩]
theorem zeg.ok : Fo 90 (sg [.ag [.i .u8, .i .u8], .lf (.s)] [.ag [.i .u64, .i .u64, .i .u8, .i .u8], .lf (.i .i64)]) zeg.f := fo 52 Tryz.func90 (.o zcr.ok (.o za3.ok (.o zx.ok .z)))
theorem zaA.ok : Fo 36 (sg [.lf (.i .u8), .lf (.i .u8), .lf (.s)] [.ag [.i .u64, .i .u64, .i .u8, .i .u8], .lf (.i .i64)]) zaA.f := fo 70 Tryz.func36 (.o zcr.ok (.o zai.ok (.o zdq.ok (.o zeg.ok .z)))) [[tt, tt, tt, tt, tt, ff, ff, tt]] fun k => [⟨[(0, .lf (.i .u8)), (1, .lf (.i .u8)), (6, .bx [.i .u64, .i .u64, .i .u8, .i .u8]), (10, .lf (.s)), (11, .lf (.b)), (12, .lf (.i .u64)), (13, .lf (.i .u8)), (14, .lf (.i .i64)), (42, .lf (.b))], zaA.j2 k⟩]
theorem zc7.ok : Fo 50 (sg [.lf (.i .u8)] [.lf (.b)]) fun _ => zc7.f := fo 9 Tryz.func50 .z
theorem zej.ok : Fo 51 (sg [.lf (.i .u8)] [.lf (.b)]) fun _ => zej.f := fo 9 Tryz.func51 .z
theorem zfK.ok : Fo 52 (sg [.lf (.i .u8), .lf (.i .u64)] [.lf (.i .i64)]) fun _ => zfK.f := fo 14 Tryz.func52 (.o zc7.ok .z)
theorem zbC.ok : Fo 37 (sg [.lf (.i .u8), .lf (.i .u8), .lf (.is .u64)] [.lf (.i .i64)]) zbC.f := fo 27 Tryz.func37 (.o zc7.ok (.o zej.ok (.o zfK.ok .z))) [[tt, tt, tt, ff, tt, ff]] fun k => [⟨[(0, .lf (.i .u8)), (2, .lf (.is .u64)), (7, .lf (.i .i64))], zbC.l0 k⟩]
theorem zfq.ok : Fo 149 (sg [.lf (.i .u8), .lf (.i .u64)] [.lf (.i .i64)]) zfq.f := fo 15 Tryz.func149 (.o zC.ok .z)
theorem zf8.ok : Fo 87 (sg [.lf (.i .u8), .ag [.i .u64, .i .u64]] [.lf (.i .i64)]) zf8.f := fo 17 Tryz.func87 (.o zfq.ok .z)
theorem zgu.ok : Fo 117 (sg [.lf (.i .u8), .lf (.i .u64)] [.lf (.i .u8), .lf (.i .i64)]) zgu.f := fo 21 Tryz.func117 (.o zC.ok (.o zcC.ok .z))
theorem zeD.ok : Fo 182 (sg [.ag [.i .i64, .i .i64, .i .u64], .lf (.i .u64)] [.ag [.b, .i .i64, .i .u64]]) fun _ => zeD.f := fo 27 Tryz.func182 .z
theorem zgv.ok : Fo 118 (sg [.lf (.i .u8), .lf (.i .u64)] [.ag [.b, .i .i64, .i .u64], .lf (.i .i64)]) zgv.f := fo 22 Tryz.func118 (.o zC.ok (.o zeD.ok .z))
theorem zdd.ok : Fo 57 (sg [.lf (.i .u8), .lf (.i .u64)] [.lf (.s), .lf (.b), .lf (.i .i64)]) zdd.f := fo 39 Tryz.func57 (.o zgu.ok (.o zgv.ok .z)) [[tt, tt, tt, tt, tt, tt]] fun k => [⟨[(9, .bx [.b, .i .i64, .i .u64]), (11, .lf (.s))], zdd.j1 k⟩]
theorem zgx.ok : Fo 198 (sg [.lf (.i .u8), .lf (.i .u64)] [.ag [.i .i64, .i .i64, .i .u64], .lf (.i .i64)]) zgx.f := fo 25 Tryz.func198 (.o zC.ok (.o zcC.ok .z))
theorem zdy.ok : Fo 145 (sg [.lf (.i .u8), .lf (.i .u64)] [.ag [.b, .is .u32, .i .i64], .lf (.i .i64)]) zdy.f := fo 47 Tryz.func145 (.o za6.ok (.o zbE.ok (.o zeD.ok (.o zgx.ok (.o zb3.ok .z))))) [[tt, tt, tt, tt, tt]] fun k => [⟨[(4, .bx [.b, .is .u32, .i .i64]), (6, .bx [.i .i64, .i .i64, .i .u64]), (8, .bx [.b, .i .i64, .i .u64])], zdy.j1 k⟩]
theorem zam.ok : Fo 147 (sg [.lf (.is .u32)] [.lf (.s), .lf (.i .i64)]) zam.f := fo 76 Tryz.func147 (.o zax.ok (.o zbn.ok .z)) [[tt, tt, tt, tt, ff, ff], [tt, tt, tt, tt, ff, ff, ff, tt, ff, tt, tt, tt, ff], [tt, tt, tt, tt, tt, ff, ff], [tt, tt, tt, tt, tt, tt, ff, tt, ff]] fun k => [⟨[(0, .lf (.is .u32)), (4, .ow .u8)], zam.l0 k⟩, ⟨[(0, .lf (.is .u32)), (4, .ow .u8), (6, .lf (.i .u32)), (7, .lf (.i .i64))], zam.l1 k⟩, ⟨[(4, .ow .u8)], zam.l2 k⟩, ⟨[(4, .ow .u8), (8, .lf (.i .i64)), (9, .lf (.i .i64))], zam.l3 k⟩]
theorem zdc.ok : Fo 85 (sg [.lf (.i .u8), .lf (.i .u64)] [.lf (.b), .lf (.s), .lf (.s)]) zdc.f := fo 93 Tryz.func85 (.o zH.ok (.o zbb.ok (.o zdy.ok (.o zaX.ok (.o zam.ok (.o zdk.ok .z)))))) [[tt, tt, tt, tt, tt, tt, tt]] fun k => [⟨[(7, .bx [.b, .is .u32, .i .i64]), (18, .lf (.s))], zdc.j1 k⟩]
theorem zds.ok : Fo 183 (sg [.lf (.s), .lf (.i .u8)] [.lf (.s)]) zds.f := fo 23 Tryz.func183 .z [[tt, ff, ff]] fun k => [⟨[(0, .lf (.s)), (1, .lf (.i .u8))], zds.l0 k⟩]
theorem zcx.ok : Fo 119 (sg [.lf (.s), .lf (.s)] [.lf (.s)]) zcx.f := fo 37 Tryz.func119 (.o zds.ok .z) [[tt, tt, ff, tt]] fun k => [⟨[(0, .lf (.s)), (1, .lf (.s)), (21, .lf (.b))], zcx.j2 k⟩]
theorem zdb.ok : Fo 58 (sg [.lf (.i .u8), .lf (.i .u64)] [.ag [.b, .s, .i .i64]]) zdb.f := fo 35 Tryz.func58 (.o zdc.ok (.o zcx.ok .z)) [[tt, tt, tt, tt, ff, ff]] fun k => [⟨[(4, .bx [.b, .s, .i .i64]), (5, .lf (.b)), (8, .lf (.i .i64)), (9, .lf (.s))], zdb.l0 k⟩]
theorem zfM.ok : Fo 61 (sg [.ag [.b, .s, .i .i64], .lf (.i .i64)] [.ag [.b, .s, .i .i64]]) zfM.f := fo 15 Tryz.func61 (.o zcx.ok .z)
theorem zde.ok : Fo 62 (sg [.ag [.b, .s, .i .i64], .lf (.i .i64)] [.ag [.b, .s, .i .i64]]) zde.f := fo 45 Tryz.func62 .z [[tt, tt, ff, tt, ff]] fun k => [⟨[(2, .bx [.b, .s, .i .i64]), (4, .bx [.b, .s, .i .i64]), (5, .ow .u8), (6, .lf (.i .i64))], zde.l0 k⟩]
theorem zfP.ok : Fo 60 (sg [.ag [.b, .s, .i .i64], .lf (.i .u8), .lf (.i .u8)] [.lf (.i .u64), .lf (.i .u8), .lf (.i .i64)]) zfP.f := fo 33 Tryz.func60 (.o zo.ok (.o zdf.ok .z))
theorem zeV.ok : Fo 59 (sg [.ag [.b, .s, .i .i64], .ip [.i .u8], .ip [.i .u64]] [.lf (.b)]) zeV.f := fo 18 Tryz.func59 (.o zfP.ok .z)
theorem zfO.ok : Fo 63 (sg [.ag [.b, .s, .i .i64], .lf (.i .i64)] [.lf (.i .i64)]) fun _ => zfO.f := fo 22 Tryz.func63 (.o zcT.ok .z)
theorem zfZ.ok : Fo 271 (sg [.lf (.i .i64)] [.lf (.b)]) fun _ => zfZ.f := fo 8 Tryz.func271 .z
theorem zX.ok : Fo 261 (sg [.lf (.is .u8), .lf (.i .u64), .lf (.i .i64), .lf (.b), .lf (.b)] [.lf (.is .u8), .lf (.s)]) zX.f := fo 102 Tryz.func261 (.o zfZ.ok (.o zcl.ok .z)) [[tt, tt, tt, tt, tt, ff, tt, ff, tt, tt, tt, ff, ff], [tt, tt, tt, tt, tt, ff, tt, tt, tt, ff, ff], [tt, tt, tt, tt, tt], [tt, tt, tt, tt, tt, tt], [tt, tt, tt, tt, tt, tt, tt]] fun k => [⟨[(0, .lf (.is .u8)), (1, .lf (.i .u64)), (3, .lf (.b)), (4, .lf (.b)), (10, .ow .u8), (11, .lf (.s)), (12, .ar .u8), (13, .lf (.i .i64)), (14, .lf (.i .u64)), (15, .lf (.i .u64)), (16, .lf (.i .u64))], zX.l0 k⟩, ⟨[(0, .lf (.is .u8)), (1, .lf (.i .u64)), (3, .lf (.b)), (4, .lf (.b)), (10, .ow .u8), (11, .lf (.s)), (12, .ar .u8), (13, .lf (.i .i64)), (17, .lf (.i .u64))], zX.l1 k⟩, ⟨[(0, .lf (.is .u8)), (1, .lf (.i .u64)), (2, .lf (.i .i64)), (3, .lf (.b)), (4, .lf (.b)), (10, .ow .u8), (11, .lf (.s)), (12, .ar .u8), (13, .lf (.i .i64))], zX.j2 k⟩, ⟨[(0, .lf (.is .u8)), (3, .lf (.b)), (4, .lf (.b)), (10, .ow .u8), (11, .lf (.s)), (12, .ar .u8), (13, .lf (.i .i64))], zX.j5 k⟩, ⟨[(0, .lf (.is .u8)), (4, .lf (.b)), (10, .ow .u8), (11, .lf (.s)), (12, .ar .u8), (13, .lf (.i .i64))], zX.j6 k⟩]
theorem zf2.ok : Fo 258 (sg [.lf (.i .i64)] [.lf (.s)]) fun _ => zf2.f := fo 15 Tryz.func258 .z
theorem zf0.ok : Fo 269 (sg [.lf (.i .i64)] [.lf (.i .i64)]) fun _ => zf0.f := fo 6 Tryz.func269 .z
theorem zfY.ok : Fo 270 (sg [.lf (.b)] [.lf (.i .i64)]) fun _ => zfY.f := fo 4 Tryz.func270 .z
theorem zf1.ok : Fo 259 (sg [.lf (.i .u64)] [.lf (.i .i64)]) zf1.f := fo 15 Tryz.func259 (.o zE.ok (.o zf0.ok (.o zfY.ok .z)))
theorem za8.ok : Fo 260 (sg [.bo .u8, .lf (.i .u64)] []) za8.f := fo 167 Tryz.func260 .z [[tt, ff, ff], [tt, tt, tt, tt], [tt, tt, tt, tt, tt]] fun k => [⟨[(0, .bo .u8), (1, .lf (.i .u64)), (4, .lf (.i .i64))], za8.l0 k⟩, ⟨[(0, .bo .u8), (4, .lf (.i .i64)), (12, .lf (.i .u32))], za8.j1 k⟩, ⟨[(0, .bo .u8), (4, .lf (.i .i64)), (12, .lf (.i .u32))], za8.j2 k⟩]
theorem zcs.ok : Fo 236 (sg [.lf (.i .i64), .lf (.i .i64)] [.lf (.s)]) zcs.f := fo 54 Tryz.func236 (.o zf2.ok (.o zf1.ok (.o za8.ok (.o zX.ok .z)))) [[tt, ff, tt, ff, tt, tt, tt, tt]] fun k => [⟨[(0, .lf (.i .i64)), (5, .ar .u8), (6, .lf (.i .u64))], zcs.j2 k⟩]
theorem zfX.ok : Fo 188 (sg [.lf (.i .i64)] [.lf (.s)]) zfX.f := fo 5 Tryz.func188 (.o zcs.ok .z)
theorem zfk.ok : Fo 123 (sg [.lf (.i .i64)] [.lf (.s)]) zfk.f := fo 5 Tryz.func123 (.o zfX.ok .z)
end Go.Proofs.YtnkpmjhlkmlmbaaGreatDoor.Eng
namespace Go.Proofs
open Go.Shelf Go.RowKit Go.Proofs.YtnkpmjhlkmlmbaaGreatDoor.Eng
set_option maxRecDepth 100000
def Tryz.renWB : Ren := { Tryz.layRepeat_ren with f := fun n => if n = 167 then 121 else Tryz.layRepeat_ren.f n }
theorem Tryz.layWB : Lays.n167 Tryz.prog Tryz.renWB where
 mixed := Tryz.layRepeat.mixed
 f167 := by kernel_rfl
 f240 := by kernel_rfl
 f276 := by kernel_rfl
 t0 := Tryz.layRepeat.t0
 a0 := Tryz.layRepeat.a0
 z0 := Tryz.layRepeat.z0
 v0 := Tryz.layRepeat.v0
 t4 := Tryz.layRepeat.t4
 a4 := Tryz.layRepeat.a4
 z4 := Tryz.layRepeat.z4
 v4 := Tryz.layRepeat.v4
 t5 := Tryz.layRepeat.t5
 a5 := Tryz.layRepeat.a5
 z5 := Tryz.layRepeat.z5
 v5 := Tryz.layRepeat.v5
 t9 := Tryz.layRepeat.t9
 a9 := Tryz.layRepeat.a9
 z9 := Tryz.layRepeat.z9
 v9 := Tryz.layRepeat.v9
 t20 := Tryz.layRepeat.t20
 a20 := Tryz.layRepeat.a20
 z20 := Tryz.layRepeat.z20
 v20 := Tryz.layRepeat.v20
 t37 := Tryz.layRepeat.t37
 a37 := Tryz.layRepeat.a37
 z37 := Tryz.layRepeat.z37
 v37 := Tryz.layRepeat.v37
 t70 := Tryz.layRepeat.t70
 a70 := Tryz.layRepeat.a70
 z70 := Tryz.layRepeat.z70
 v70 := Tryz.layRepeat.v70
 t72 := Tryz.layRepeat.t72
 a72 := Tryz.layRepeat.a72
 z72 := Tryz.layRepeat.z72
 v72 := Tryz.layRepeat.v72
 t75 := Tryz.layRepeat.t75
 a75 := Tryz.layRepeat.a75
 z75 := Tryz.layRepeat.z75
 v75 := Tryz.layRepeat.v75
 t164 := Tryz.layRepeat.t164
 a164 := Tryz.layRepeat.a164
 z164 := Tryz.layRepeat.z164
 v164 := Tryz.layRepeat.v164
theorem Tryz.layWS : Lays.n166 Tryz.prog Tryz.layRepeat_ren := { Tryz.layRepeat with }
theorem Tryz.laySt : Lays.n169 Tryz.prog Tryz.layRepeat_ren := { Tryz.layRepeat with }
theorem Tryz.xWB : Builder.Extra Tryz.prog Tryz.renWB := { Tryz.extraRepeat with }
theorem bc_app (l : List UInt8) (s : ByteArray) : Lib.byteCells l ++ Lib.strCells s = Lib.byteCells (l ++ s.data.toList) := by
 rw [Lib.byteCells_append]; rfl
theorem Tryz.wb (B b : Nat) (l : List UInt8) (w : World) (h : Lib.IsBuilder 176 5 B b (Lib.byteCells l) w) (hlen : l.length ≤ 1000000000) (hBw : B ≤ w.heap.size) :
  Calls Tryz.prog 121 #[.pointer (some ⟨b, 0, none⟩), .int .u8 45] w fun e w' => e = .returned .nilIface ∧ Lib.IsBuilder 176 5 B b (Lib.byteCells (l ++ [45])) w' ∧ Below B w w' :=
 (Any.Builder_WriteByte Tryz.layWB Tryz.xWB B b (Lib.byteCells l) 45 w h (by rw [Lib.byteCells_length]; omega) hBw).mono fun e w' ⟨h1, h2, h3⟩ => ⟨h1, .inr (by rw [Lib.byteCells_append]; exact h2), h3⟩
theorem Tryz.ws (B b : Nat) (l : List UInt8) (s : ByteArray) (w : World) (h : Lib.IsBuilder 176 5 B b (Lib.byteCells l) w) (hlen : l.length ≤ 1000000000) (hs : s.size ≤ 1000000000) (hBw : B ≤ w.heap.size) :
  Calls Tryz.prog 122 #[.pointer (some ⟨b, 0, none⟩), .string s] w fun e w' => e = .returned (.tuple #[.int .i64 s.size, .nilIface]) ∧ Lib.IsBuilder 176 5 B b (Lib.byteCells (l ++ s.data.toList)) w' ∧ Below B w w' :=
 (Any.Builder_WriteString Tryz.layWS Tryz.extraRepeat B b (Lib.byteCells l) s w h (by rw [Lib.byteCells_length]; omega) hBw).mono fun e w' ⟨h1, h2, h3⟩ => ⟨h1, .inr (by rw [← bc_app]; exact h2), h3⟩
theorem Tryz.st (B b : Nat) (l : List UInt8) (w : World) (h : Lib.IsBuilder 176 5 B b (Lib.byteCells l) w) (hBw : B ≤ w.heap.size) :
  Calls Tryz.prog 125 #[.pointer (some ⟨b, 0, none⟩)] w fun e w' => e = .returned (.string ⟨l.toArray⟩) ∧ Below B w w' := Any.Builder_String_any Tryz.laySt Tryz.extraRepeat B b l w h hBw
theorem builder_below {T e : TypeId} {B b : Nat} {bs : List Value} {w w' : World} (h : Lib.IsBuilder T e B b bs w) (hb : Below w.heap.size w w') : Lib.IsBuilder T e B b bs w' := by
 have one : ∀ p, Lib.BuilderAt T e B b p bs w → Lib.BuilderAt T e B b p bs w' := by
  rintro p ⟨h1, v, h2, h3, h4⟩
  refine ⟨h1, v, ?_, ?_, h4⟩
  ·rw [hb.block b (Array.getElem?_eq_some_iff.1 h2).1]; exact h2
  ·obtain ⟨k1, k2 | ⟨g, cap, cur, k2, k3, k4, k5⟩⟩ := h3
   ·exact ⟨k1, .inl k2⟩
   ·exact ⟨k1, .inr ⟨g, cap, cur, k2, k3, by rw [hb.block g (Array.getElem?_eq_some_iff.1 k4).1]; exact k4, k5⟩⟩
 rcases h with h | h
 ·exact .inl (one _ h)
 ·exact .inr (one _ h)
theorem ba_ext {a b : ByteArray} (h : a.data.toList = b.data.toList) : a = b := by
 cases a; cases b
 congr
 exact Array.toList_inj.1 h
theorem ba_len (s : ByteArray) : s.data.toList.length = s.size := by rw [Array.length_toList]; rfl
theorem ba_app (a b : ByteArray) : (a ++ b).data.toList = a.data.toList ++ b.data.toList := by simp
set_option maxHeartbeats 8000000 in
set_option maxRecDepth 1000000 in
theorem Tryz.plain_walk (k : Nat) (neg : Bool) (d : ByteArray) (x : Int) (r : ByteArray) (hr : zaS.f k neg d x = some r) (hx1 : -9223372036854775808 ≤ x) (hx2 : x < 9223372036854775808) (w : World)
 (hI : ∀ it, zfk.f k x = some it → ∀ w1 : World, Below w.heap.size w w1 → Calls Tryz.prog 123 #[.int .i64 x] w1 fun e w' => e = .returned (.string it) ∧ Below w1.heap.size w1 w') :
  Calls Tryz.prog 65 #[.agg #[.bool neg, .string d, .int .i64 x]] w fun e w' => e = .returned (.string r) ∧ Below w.heap.size w w' := by
 unfold zaS.f at hr
 split at hr
 case isFalse => cases hr
 rename_i hb
 obtain ⟨hb1, hb2, hb3⟩ := hb
 have hw : ∀ n : Int, -4000000 ≤ n → n ≤ 4000000 → wrap64 n = n := fun n h1 h2 => by unfold wrap64; omega
 have hRep : ∀ (n : Int) (z : ByteArray) (w1 : World), zbb.f (⟨#[48]⟩ : ByteArray) n = some z → Calls Tryz.prog 124 #[.string ⟨#[48]⟩, .int .i64 n] w1 fun e w' => e = .returned (.string z) ∧ Below w1.heap.size w1 w' := by
  intro n z w1 hz
  unfold zbb.f at hz
  split at hz
  case isFalse => cases hz
  rename_i h
  obtain rfl := Option.some.inj hz
  have := Any.strings_Repeat Tryz.layRepeat Tryz.extraRepeat ⟨#[48]⟩ n.toNat w1 (by omega) h.2.1
  rw [Int.toNat_of_nonneg h.1] at this
  exact this
 have hRs : ∀ (n : Int) (z : ByteArray), zbb.f (⟨#[48]⟩ : ByteArray) n = some z → n ≤ 10000000 → z.size ≤ 10000000 := by
  intro n z hz hn
  unfold zbb.f at hz
  split at hz
  case isFalse => cases hz
  rename_i h
  obtain rfl := Option.some.inj hz
  show (Lib.repeatL [48] n.toNat).toArray.size ≤ _
  rw [List.size_toArray, Lib.repeatL_length]
  simp
  omega
 have hex : ∀ i j, (d.extract i j).size ≤ 1000000 := fun i j => by rw [ByteArray.size_extract]; omega
 go_enter Tryz.func65, Tryz.ntmps65
 cases neg with
 | false =>
  have hB0 : Lib.IsBuilder 176 5 (w.heap.size + 1) (w.heap.size + 1) (Lib.byteCells []) ((w.alloc (Obj.cells #[Value.bool false, Value.string d, Value.int IntKind.i64 x] 96)).alloc (Obj.cells #[Value.pointer none, Value.slice none 0 0] 176)) := by
   have := Lib.fresh_isBuilder 176 5 (w.alloc (Obj.cells #[Value.bool false, Value.string d, Value.int IntKind.i64 x] 96))
   have e : (w.alloc (Obj.cells #[Value.bool false, Value.string d, Value.int IntKind.i64 x] 96)).heap.size = w.heap.size + 1 := by simp
   rw [e] at this
   exact this
  have hbel0 : Below w.heap.size w ((w.alloc (Obj.cells #[Value.bool false, Value.string d, Value.int IntKind.i64 x] 96)).alloc (Obj.cells #[Value.pointer none, Value.slice none 0 0] 176)) := ((Below.refl _ w).alloc (Nat.le_refl _) _).alloc (by simp) _
  have hsz0 : w.heap.size + 2 ≤ ((w.alloc (Obj.cells #[Value.bool false, Value.string d, Value.int IntKind.i64 x] 96)).alloc (Obj.cells #[Value.pointer none, Value.slice none 0 0] 176)).heap.size := by simp
  have hc10 : ((w.alloc (Obj.cells #[Value.bool false, Value.string d, Value.int IntKind.i64 x] 96)).alloc (Obj.cells #[Value.pointer none, Value.slice none 0 0] 176)).cell? ⟨w.heap.size, 1, none⟩ = some (.string d) := by go_simp
  have hc20 : ((w.alloc (Obj.cells #[Value.bool false, Value.string d, Value.int IntKind.i64 x] 96)).alloc (Obj.cells #[Value.pointer none, Value.slice none 0 0] 176)).cell? ⟨w.heap.size, 2, none⟩ = some (.int .i64 x) := by go_simp
  go_wp2_with (fail)
  generalize ((w.alloc (Obj.cells #[Value.bool false, Value.string d, Value.int IntKind.i64 x] 96)).alloc (Obj.cells #[Value.pointer none, Value.slice none 0 0] 176)) = W1 at *
  have hB := hB0
  have hbel := hbel0
  have hsz := hsz0
  have hc1 := hc10
  have hc2 := hc20
  have hB1 : Lib.IsBuilder 176 5 (w.heap.size + 1) (w.heap.size + 1) (Lib.byteCells ([] : List UInt8)) W1.drew := by
   rcases hB with h | h
   ·exact .inl h.drew
   ·exact .inr h.drew
  have hw1 : Below w.heap.size w W1.drew := hbel.drew
  have hs1 : w.heap.size + 2 ≤ W1.drew.heap.size := hsz
  clear hB hbel hsz hB0 hbel0 hsz0 hc10 hc20
  go_region
  all_goals go_wp2_with (fail)
  ·rw [if_pos (by omega)] at hr
   split at hr
   case isFalse => cases hr
   rename_i hd1
   obtain ⟨it, hit, hr⟩ := Option.bind_eq_some_iff.1 hr
   split at hr
   case isFalse => cases hr
   rename_i hits
   obtain rfl := Option.some.inj hr
   refine (Tryz.ws (w.heap.size + 1) (w.heap.size + 1) ([] : List UInt8) (d.extract 0 1) _ hB1 (by simp) (Nat.le_trans (hex 0 1) (by omega)) (by omega)).mono ?_
   rintro e W2 ⟨rfl, hB2, b2⟩
   have s2 := b2.size
   have hw2 := hw1.trans (b2.mono (by omega))
   have l2 : (([] : List UInt8) ++ (d.extract 0 1).data.toList).length ≤ 1000001 := by
    have := hex 0 1
    have h1 : (d.extract 0 1).data.toList.length = (d.extract 0 1).size := by simp
    rw [List.length_append, h1]; simp; omega
   have hse : ((⟨#[101]⟩ : ByteArray) ++ it).size ≤ 2000000 := by rw [ByteArray.size_append]; have h1 : (⟨#[101]⟩ : ByteArray).size = 1 := rfl; omega
   have hsd : ((⟨#[46]⟩ : ByteArray) ++ d.extract 1 d.size).size ≤ 2000000 := by rw [ByteArray.size_append]; have := hex 1 d.size; have h1 : (⟨#[46]⟩ : ByteArray).size = 1 := rfl; omega
   have hx1' := hex 1 d.size
   have fin : ∀ (L3 : List UInt8) (W3 : World), w.heap.size + 2 ≤ W3.heap.size → L3.length ≤ 4000000 → Lib.IsBuilder 176 5 (w.heap.size + 1) (w.heap.size + 1) (Lib.byteCells L3) W3 → Below w.heap.size w W3 →
     Calls Tryz.prog 123 #[.int .i64 x] W3 (fun e w' => e = .returned (.string it) ∧ Lib.IsBuilder 176 5 (w.heap.size + 1) (w.heap.size + 1) (Lib.byteCells L3) w' ∧ Below w.heap.size w w' ∧ W3.heap.size ≤ w'.heap.size) := by
    intro L3 W3 h1 h2 h3 h4
    refine (hI it hit W3 h4).mono ?_
    rintro e w' ⟨h5, h6⟩
    exact ⟨h5, builder_below h3 h6, h4.trans (h6.mono (by omega)), h6.size⟩
   go_wp2_with (fail)
   ·rename_i hd2
    refine (Tryz.ws (w.heap.size + 1) (w.heap.size + 1) _ _ _ hB2 (by omega) (by omega) (by omega)).mono ?_
    rintro e W3 ⟨rfl, hB3, b3⟩
    have s3 := b3.size
    have hw3 := hw2.trans (b3.mono (by omega))
    have l3 : (([] : List UInt8) ++ (d.extract 0 1).data.toList ++ ((⟨#[46]⟩ : ByteArray) ++ d.extract 1 d.size).data.toList).length ≤ 3500000 := by
     have h1 : ((⟨#[46]⟩ : ByteArray) ++ d.extract 1 d.size).data.toList.length = ((⟨#[46]⟩ : ByteArray) ++ d.extract 1 d.size).size := ba_len _
     rw [List.length_append, h1]; omega
    go_wp2_with (fail)
    refine (fin _ W3 (by omega) (by omega) hB3 hw3).mono ?_
    rintro e W4 ⟨rfl, hB4, hw4, s4⟩
    go_wp2_with (fail)
    refine (Tryz.ws (w.heap.size + 1) (w.heap.size + 1) _ _ _ hB4 (by omega) (by omega) (by omega)).mono ?_
    rintro e W5 ⟨rfl, hB5, b5⟩
    have s5 := b5.size
    have hw5 := hw4.trans (b5.mono (by omega))
    go_wp2_with (fail)
    have hd3 : d.size > 1 := by omega
    refine (Tryz.st (w.heap.size + 1) (w.heap.size + 1) _ _ hB5 (by omega)).mono ?_
    rintro e W9 ⟨rfl, b9⟩
    go_wp2_with (fail)
    go_ret
    exact ⟨congrArg (fun s => Ending.returned (Value.string s)) (ba_ext (by simp only [ba_app, List.append_assoc, if_pos hd3, List.nil_append, List.append_nil, List.singleton_append, List.cons_append, List.toList_toArray, if_true, Bool.false_eq_true, if_false, ByteArray.data_extract, Array.toList_extract, List.extract_eq_take_drop, List.drop_zero, Nat.sub_zero, List.drop_one])), hw5.trans (b9.mono (by omega))⟩
   ·rename_i hd2
    refine (fin _ W2 (by omega) (by omega) hB2 hw2).mono ?_
    rintro e W4 ⟨rfl, hB4, hw4, s4⟩
    go_wp2_with (fail)
    refine (Tryz.ws (w.heap.size + 1) (w.heap.size + 1) _ _ _ hB4 (by omega) (by omega) (by omega)).mono ?_
    rintro e W5 ⟨rfl, hB5, b5⟩
    have s5 := b5.size
    have hw5 := hw4.trans (b5.mono (by omega))
    go_wp2_with (fail)
    have hd3 : ¬ d.size > 1 := by omega
    refine (Tryz.st (w.heap.size + 1) (w.heap.size + 1) _ _ hB5 (by omega)).mono ?_
    rintro e W9 ⟨rfl, b9⟩
    go_wp2_with (fail)
    go_ret
    exact ⟨congrArg (fun s => Ending.returned (Value.string s)) (ba_ext (by simp only [ba_app, List.append_assoc, if_neg hd3, List.nil_append, List.append_nil, List.singleton_append, List.cons_append, List.toList_toArray, if_true, Bool.false_eq_true, if_false, ByteArray.data_extract, Array.toList_extract, List.extract_eq_take_drop, List.drop_zero, Nat.sub_zero, List.drop_one])), hw5.trans (b9.mono (by omega))⟩
  ·exfalso
   rw [if_pos (by omega)] at hr
   split at hr
   ·omega
   ·cases hr
  ·rw [if_neg (by omega), if_pos (by omega)] at hr
   obtain ⟨z, hz, hr⟩ := Option.bind_eq_some_iff.1 hr
   obtain rfl := Option.some.inj hr
   have hzs := hRs _ _ hz (by omega)
   refine (hRep _ z _ hz).mono ?_
   rintro e W2 ⟨rfl, b2⟩
   have s2 := b2.size
   have hB2 := builder_below hB1 b2
   have hw2 := hw1.trans (b2.mono (by omega))
   have h02 : (⟨#[48, 46]⟩ : ByteArray).size = 2 := rfl
   have hza : ((⟨#[48, 46]⟩ : ByteArray) ++ z).size = 2 + z.size := by rw [ByteArray.size_append]; omega
   have hzb : ((⟨#[48, 46]⟩ : ByteArray) ++ z ++ d).size = 2 + z.size + d.size := by rw [ByteArray.size_append]; omega
   go_wp2_with (fail)
   refine (Tryz.ws (w.heap.size + 1) (w.heap.size + 1) _ _ _ hB2 (by simp) (by omega) (by omega)).mono ?_
   rintro e W5 ⟨rfl, hB5, b5⟩
   have s5 := b5.size
   have hw5 := hw2.trans (b5.mono (by omega))
   go_wp2_with (fail)
   refine (Tryz.st (w.heap.size + 1) (w.heap.size + 1) _ _ hB5 (by omega)).mono ?_
   rintro e W9 ⟨rfl, b9⟩
   go_wp2_with (fail)
   go_ret
   exact ⟨congrArg (fun s => Ending.returned (Value.string s)) (ba_ext (by simp only [ba_app, List.append_assoc, List.nil_append, List.append_nil, List.singleton_append, List.cons_append, List.toList_toArray, if_true, Bool.false_eq_true, if_false, ByteArray.data_extract, Array.toList_extract, List.extract_eq_take_drop, List.drop_zero, Nat.sub_zero, List.drop_one])), hw5.trans (b9.mono (by omega))⟩
  ·rw [if_neg (by omega), if_neg (by omega), if_pos (by omega)] at hr
   obtain rfl := Option.some.inj hr
   have h46 : (⟨#[46]⟩ : ByteArray).size = 1 := rfl
   have hxa := hex 0 (x + 1).toNat
   have hxb := hex (x + 1).toNat d.size
   have hza : (d.extract 0 (x + 1).toNat ++ (⟨#[46]⟩ : ByteArray)).size = (d.extract 0 (x + 1).toNat).size + 1 := by rw [ByteArray.size_append, h46]
   have hzb : (d.extract 0 (x + 1).toNat ++ (⟨#[46]⟩ : ByteArray) ++ d.extract (x + 1).toNat d.size).size = (d.extract 0 (x + 1).toNat).size + 1 + (d.extract (x + 1).toNat d.size).size := by rw [ByteArray.size_append, hza]
   have hB2 : Lib.IsBuilder 176 5 (w.heap.size + 1) (w.heap.size + 1) (Lib.byteCells ([] : List UInt8)) W1.drew.drew := by
    rcases hB1 with h | h
    ·exact .inl h.drew
    ·exact .inr h.drew
   have hs2 : w.heap.size + 2 ≤ W1.drew.drew.heap.size := hs1
   have q1 : x + 1 ≤ (d.size : Int) := by omega
   have q2 : 0 ≤ x + 1 := by omega
   have q3 : IntKind.i64.wrap (x + 1) = x + 1 := by simp [IntKind.wrap, IntKind.bits, IntKind.signed]; omega
   go_region_with (go_at_call 122; refine (Tryz.ws (w.heap.size + 1) (w.heap.size + 1) _ _ _ hB2 (by simp) (by omega) (by omega)).mono ?_; rintro e W5 ⟨rfl, hB5, b5⟩)
   have s5 := b5.size
   have hw5 := hw1.drew.trans (b5.mono (by omega))
   go_wp2_with (fail)
   refine (Tryz.st (w.heap.size + 1) (w.heap.size + 1) _ _ hB5 (by omega)).mono ?_
   rintro e W9 ⟨rfl, b9⟩
   go_wp2_with (fail)
   go_ret
   exact ⟨congrArg (fun s => Ending.returned (Value.string s)) (ba_ext (by simp only [ba_app, List.append_assoc, List.nil_append, List.append_nil, List.singleton_append, List.cons_append, List.toList_toArray, if_true, Bool.false_eq_true, if_false, ByteArray.data_extract, Array.toList_extract, List.extract_eq_take_drop, List.drop_zero, Nat.sub_zero, List.drop_one])), hw5.trans (b9.mono (by omega))⟩
  ·rw [if_neg (by omega), if_neg (by omega), if_neg (by omega)] at hr
   obtain ⟨z, hz, hr⟩ := Option.bind_eq_some_iff.1 hr
   obtain rfl := Option.some.inj hr
   have hzs := hRs _ _ hz (by omega)
   refine (hRep _ z _ hz).mono ?_
   rintro e W2 ⟨rfl, b2⟩
   have s2 := b2.size
   have hB2 := builder_below hB1 b2
   have hw2 := hw1.trans (b2.mono (by omega))
   have hza : (d ++ z).size = d.size + z.size := by rw [ByteArray.size_append]
   go_wp2_with (fail)
   refine (Tryz.ws (w.heap.size + 1) (w.heap.size + 1) _ _ _ hB2 (by simp) (by omega) (by omega)).mono ?_
   rintro e W5 ⟨rfl, hB5, b5⟩
   have s5 := b5.size
   have hw5 := hw2.trans (b5.mono (by omega))
   go_wp2_with (fail)
   refine (Tryz.st (w.heap.size + 1) (w.heap.size + 1) _ _ hB5 (by omega)).mono ?_
   rintro e W9 ⟨rfl, b9⟩
   go_wp2_with (fail)
   go_ret
   exact ⟨congrArg (fun s => Ending.returned (Value.string s)) (ba_ext (by simp only [ba_app, List.append_assoc, List.nil_append, List.append_nil, List.singleton_append, List.cons_append, List.toList_toArray, if_true, Bool.false_eq_true, if_false, ByteArray.data_extract, Array.toList_extract, List.extract_eq_take_drop, List.drop_zero, Nat.sub_zero, List.drop_one])), hw5.trans (b9.mono (by omega))⟩
  ·rw [if_pos (by omega)] at hr
   split at hr
   case isFalse => cases hr
   rename_i hd1
   obtain ⟨it, hit, hr⟩ := Option.bind_eq_some_iff.1 hr
   split at hr
   case isFalse => cases hr
   rename_i hits
   obtain rfl := Option.some.inj hr
   refine (Tryz.ws (w.heap.size + 1) (w.heap.size + 1) ([] : List UInt8) (d.extract 0 1) _ hB1 (by simp) (Nat.le_trans (hex 0 1) (by omega)) (by omega)).mono ?_
   rintro e W2 ⟨rfl, hB2, b2⟩
   have s2 := b2.size
   have hw2 := hw1.trans (b2.mono (by omega))
   have l2 : (([] : List UInt8) ++ (d.extract 0 1).data.toList).length ≤ 1000001 := by
    have := hex 0 1
    have h1 : (d.extract 0 1).data.toList.length = (d.extract 0 1).size := by simp
    rw [List.length_append, h1]; simp; omega
   have hse : ((⟨#[101]⟩ : ByteArray) ++ it).size ≤ 2000000 := by rw [ByteArray.size_append]; have h1 : (⟨#[101]⟩ : ByteArray).size = 1 := rfl; omega
   have hsd : ((⟨#[46]⟩ : ByteArray) ++ d.extract 1 d.size).size ≤ 2000000 := by rw [ByteArray.size_append]; have := hex 1 d.size; have h1 : (⟨#[46]⟩ : ByteArray).size = 1 := rfl; omega
   have hx1' := hex 1 d.size
   have fin : ∀ (L3 : List UInt8) (W3 : World), w.heap.size + 2 ≤ W3.heap.size → L3.length ≤ 4000000 → Lib.IsBuilder 176 5 (w.heap.size + 1) (w.heap.size + 1) (Lib.byteCells L3) W3 → Below w.heap.size w W3 →
     Calls Tryz.prog 123 #[.int .i64 x] W3 (fun e w' => e = .returned (.string it) ∧ Lib.IsBuilder 176 5 (w.heap.size + 1) (w.heap.size + 1) (Lib.byteCells L3) w' ∧ Below w.heap.size w w' ∧ W3.heap.size ≤ w'.heap.size) := by
    intro L3 W3 h1 h2 h3 h4
    refine (hI it hit W3 h4).mono ?_
    rintro e w' ⟨h5, h6⟩
    exact ⟨h5, builder_below h3 h6, h4.trans (h6.mono (by omega)), h6.size⟩
   go_wp2_with (fail)
   ·rename_i hd2
    refine (Tryz.ws (w.heap.size + 1) (w.heap.size + 1) _ _ _ hB2 (by omega) (by omega) (by omega)).mono ?_
    rintro e W3 ⟨rfl, hB3, b3⟩
    have s3 := b3.size
    have hw3 := hw2.trans (b3.mono (by omega))
    have l3 : (([] : List UInt8) ++ (d.extract 0 1).data.toList ++ ((⟨#[46]⟩ : ByteArray) ++ d.extract 1 d.size).data.toList).length ≤ 3500000 := by
     have h1 : ((⟨#[46]⟩ : ByteArray) ++ d.extract 1 d.size).data.toList.length = ((⟨#[46]⟩ : ByteArray) ++ d.extract 1 d.size).size := ba_len _
     rw [List.length_append, h1]; omega
    go_wp2_with (fail)
    refine (fin _ W3 (by omega) (by omega) hB3 hw3).mono ?_
    rintro e W4 ⟨rfl, hB4, hw4, s4⟩
    go_wp2_with (fail)
    refine (Tryz.ws (w.heap.size + 1) (w.heap.size + 1) _ _ _ hB4 (by omega) (by omega) (by omega)).mono ?_
    rintro e W5 ⟨rfl, hB5, b5⟩
    have s5 := b5.size
    have hw5 := hw4.trans (b5.mono (by omega))
    go_wp2_with (fail)
    have hd3 : d.size > 1 := by omega
    refine (Tryz.st (w.heap.size + 1) (w.heap.size + 1) _ _ hB5 (by omega)).mono ?_
    rintro e W9 ⟨rfl, b9⟩
    go_wp2_with (fail)
    go_ret
    exact ⟨congrArg (fun s => Ending.returned (Value.string s)) (ba_ext (by simp only [ba_app, List.append_assoc, if_pos hd3, List.nil_append, List.append_nil, List.singleton_append, List.cons_append, List.toList_toArray, if_true, Bool.false_eq_true, if_false, ByteArray.data_extract, Array.toList_extract, List.extract_eq_take_drop, List.drop_zero, Nat.sub_zero, List.drop_one])), hw5.trans (b9.mono (by omega))⟩
   ·rename_i hd2
    refine (fin _ W2 (by omega) (by omega) hB2 hw2).mono ?_
    rintro e W4 ⟨rfl, hB4, hw4, s4⟩
    go_wp2_with (fail)
    refine (Tryz.ws (w.heap.size + 1) (w.heap.size + 1) _ _ _ hB4 (by omega) (by omega) (by omega)).mono ?_
    rintro e W5 ⟨rfl, hB5, b5⟩
    have s5 := b5.size
    have hw5 := hw4.trans (b5.mono (by omega))
    go_wp2_with (fail)
    have hd3 : ¬ d.size > 1 := by omega
    refine (Tryz.st (w.heap.size + 1) (w.heap.size + 1) _ _ hB5 (by omega)).mono ?_
    rintro e W9 ⟨rfl, b9⟩
    go_wp2_with (fail)
    go_ret
    exact ⟨congrArg (fun s => Ending.returned (Value.string s)) (ba_ext (by simp only [ba_app, List.append_assoc, if_neg hd3, List.nil_append, List.append_nil, List.singleton_append, List.cons_append, List.toList_toArray, if_true, Bool.false_eq_true, if_false, ByteArray.data_extract, Array.toList_extract, List.extract_eq_take_drop, List.drop_zero, Nat.sub_zero, List.drop_one])), hw5.trans (b9.mono (by omega))⟩
  ·exfalso
   rw [if_pos (by omega)] at hr
   split at hr
   ·omega
   ·cases hr
 | true =>
  have hB0 : Lib.IsBuilder 176 5 (w.heap.size + 1) (w.heap.size + 1) (Lib.byteCells []) ((w.alloc (Obj.cells #[Value.bool true, Value.string d, Value.int IntKind.i64 x] 96)).alloc (Obj.cells #[Value.pointer none, Value.slice none 0 0] 176)) := by
   have := Lib.fresh_isBuilder 176 5 (w.alloc (Obj.cells #[Value.bool true, Value.string d, Value.int IntKind.i64 x] 96))
   have e : (w.alloc (Obj.cells #[Value.bool true, Value.string d, Value.int IntKind.i64 x] 96)).heap.size = w.heap.size + 1 := by simp
   rw [e] at this
   exact this
  have hbel0 : Below w.heap.size w ((w.alloc (Obj.cells #[Value.bool true, Value.string d, Value.int IntKind.i64 x] 96)).alloc (Obj.cells #[Value.pointer none, Value.slice none 0 0] 176)) := ((Below.refl _ w).alloc (Nat.le_refl _) _).alloc (by simp) _
  have hsz0 : w.heap.size + 2 ≤ ((w.alloc (Obj.cells #[Value.bool true, Value.string d, Value.int IntKind.i64 x] 96)).alloc (Obj.cells #[Value.pointer none, Value.slice none 0 0] 176)).heap.size := by simp
  have hc10 : ((w.alloc (Obj.cells #[Value.bool true, Value.string d, Value.int IntKind.i64 x] 96)).alloc (Obj.cells #[Value.pointer none, Value.slice none 0 0] 176)).cell? ⟨w.heap.size, 1, none⟩ = some (.string d) := by go_simp
  have hc20 : ((w.alloc (Obj.cells #[Value.bool true, Value.string d, Value.int IntKind.i64 x] 96)).alloc (Obj.cells #[Value.pointer none, Value.slice none 0 0] 176)).cell? ⟨w.heap.size, 2, none⟩ = some (.int .i64 x) := by go_simp
  go_wp2_with (fail)
  refine (Tryz.wb (w.heap.size + 1) (w.heap.size + 1) [] _ hB0 (by simp) (by omega)).mono ?_
  rintro e W1 ⟨rfl, hB, b1⟩
  have hbel := hbel0.trans (b1.mono (by omega))
  have hsz : w.heap.size + 2 ≤ W1.heap.size := Nat.le_trans hsz0 b1.size
  have hc1 : W1.cell? ⟨w.heap.size, 1, none⟩ = some (.string d) := by rw [b1.cell (by show w.heap.size < w.heap.size + 1; omega)]; exact hc10
  have hc2 : W1.cell? ⟨w.heap.size, 2, none⟩ = some (.int .i64 x) := by rw [b1.cell (by show w.heap.size < w.heap.size + 1; omega)]; exact hc20
  go_wp2_with (fail)
  have hB1 : Lib.IsBuilder 176 5 (w.heap.size + 1) (w.heap.size + 1) (Lib.byteCells ([45] : List UInt8)) W1.drew := by
   rcases hB with h | h
   ·exact .inl h.drew
   ·exact .inr h.drew
  have hw1 : Below w.heap.size w W1.drew := hbel.drew
  have hs1 : w.heap.size + 2 ≤ W1.drew.heap.size := hsz
  clear hB hbel hsz hB0 hbel0 hsz0 hc10 hc20
  go_region
  all_goals go_wp2_with (fail)
  ·rw [if_pos (by omega)] at hr
   split at hr
   case isFalse => cases hr
   rename_i hd1
   obtain ⟨it, hit, hr⟩ := Option.bind_eq_some_iff.1 hr
   split at hr
   case isFalse => cases hr
   rename_i hits
   obtain rfl := Option.some.inj hr
   refine (Tryz.ws (w.heap.size + 1) (w.heap.size + 1) ([45] : List UInt8) (d.extract 0 1) _ hB1 (by simp) (Nat.le_trans (hex 0 1) (by omega)) (by omega)).mono ?_
   rintro e W2 ⟨rfl, hB2, b2⟩
   have s2 := b2.size
   have hw2 := hw1.trans (b2.mono (by omega))
   have l2 : (([45] : List UInt8) ++ (d.extract 0 1).data.toList).length ≤ 1000001 := by
    have := hex 0 1
    have h1 : (d.extract 0 1).data.toList.length = (d.extract 0 1).size := by simp
    rw [List.length_append, h1]; simp; omega
   have hse : ((⟨#[101]⟩ : ByteArray) ++ it).size ≤ 2000000 := by rw [ByteArray.size_append]; have h1 : (⟨#[101]⟩ : ByteArray).size = 1 := rfl; omega
   have hsd : ((⟨#[46]⟩ : ByteArray) ++ d.extract 1 d.size).size ≤ 2000000 := by rw [ByteArray.size_append]; have := hex 1 d.size; have h1 : (⟨#[46]⟩ : ByteArray).size = 1 := rfl; omega
   have hx1' := hex 1 d.size
   have fin : ∀ (L3 : List UInt8) (W3 : World), w.heap.size + 2 ≤ W3.heap.size → L3.length ≤ 4000000 → Lib.IsBuilder 176 5 (w.heap.size + 1) (w.heap.size + 1) (Lib.byteCells L3) W3 → Below w.heap.size w W3 →
     Calls Tryz.prog 123 #[.int .i64 x] W3 (fun e w' => e = .returned (.string it) ∧ Lib.IsBuilder 176 5 (w.heap.size + 1) (w.heap.size + 1) (Lib.byteCells L3) w' ∧ Below w.heap.size w w' ∧ W3.heap.size ≤ w'.heap.size) := by
    intro L3 W3 h1 h2 h3 h4
    refine (hI it hit W3 h4).mono ?_
    rintro e w' ⟨h5, h6⟩
    exact ⟨h5, builder_below h3 h6, h4.trans (h6.mono (by omega)), h6.size⟩
   go_wp2_with (fail)
   ·rename_i hd2
    refine (Tryz.ws (w.heap.size + 1) (w.heap.size + 1) _ _ _ hB2 (by omega) (by omega) (by omega)).mono ?_
    rintro e W3 ⟨rfl, hB3, b3⟩
    have s3 := b3.size
    have hw3 := hw2.trans (b3.mono (by omega))
    have l3 : (([45] : List UInt8) ++ (d.extract 0 1).data.toList ++ ((⟨#[46]⟩ : ByteArray) ++ d.extract 1 d.size).data.toList).length ≤ 3500000 := by
     have h1 : ((⟨#[46]⟩ : ByteArray) ++ d.extract 1 d.size).data.toList.length = ((⟨#[46]⟩ : ByteArray) ++ d.extract 1 d.size).size := ba_len _
     rw [List.length_append, h1]; omega
    go_wp2_with (fail)
    refine (fin _ W3 (by omega) (by omega) hB3 hw3).mono ?_
    rintro e W4 ⟨rfl, hB4, hw4, s4⟩
    go_wp2_with (fail)
    refine (Tryz.ws (w.heap.size + 1) (w.heap.size + 1) _ _ _ hB4 (by omega) (by omega) (by omega)).mono ?_
    rintro e W5 ⟨rfl, hB5, b5⟩
    have s5 := b5.size
    have hw5 := hw4.trans (b5.mono (by omega))
    go_wp2_with (fail)
    have hd3 : d.size > 1 := by omega
    refine (Tryz.st (w.heap.size + 1) (w.heap.size + 1) _ _ hB5 (by omega)).mono ?_
    rintro e W9 ⟨rfl, b9⟩
    go_wp2_with (fail)
    go_ret
    exact ⟨congrArg (fun s => Ending.returned (Value.string s)) (ba_ext (by simp only [ba_app, List.append_assoc, if_pos hd3, List.nil_append, List.append_nil, List.singleton_append, List.cons_append, List.toList_toArray, if_true, Bool.false_eq_true, if_false, ByteArray.data_extract, Array.toList_extract, List.extract_eq_take_drop, List.drop_zero, Nat.sub_zero, List.drop_one])), hw5.trans (b9.mono (by omega))⟩
   ·rename_i hd2
    refine (fin _ W2 (by omega) (by omega) hB2 hw2).mono ?_
    rintro e W4 ⟨rfl, hB4, hw4, s4⟩
    go_wp2_with (fail)
    refine (Tryz.ws (w.heap.size + 1) (w.heap.size + 1) _ _ _ hB4 (by omega) (by omega) (by omega)).mono ?_
    rintro e W5 ⟨rfl, hB5, b5⟩
    have s5 := b5.size
    have hw5 := hw4.trans (b5.mono (by omega))
    go_wp2_with (fail)
    have hd3 : ¬ d.size > 1 := by omega
    refine (Tryz.st (w.heap.size + 1) (w.heap.size + 1) _ _ hB5 (by omega)).mono ?_
    rintro e W9 ⟨rfl, b9⟩
    go_wp2_with (fail)
    go_ret
    exact ⟨congrArg (fun s => Ending.returned (Value.string s)) (ba_ext (by simp only [ba_app, List.append_assoc, if_neg hd3, List.nil_append, List.append_nil, List.singleton_append, List.cons_append, List.toList_toArray, if_true, Bool.false_eq_true, if_false, ByteArray.data_extract, Array.toList_extract, List.extract_eq_take_drop, List.drop_zero, Nat.sub_zero, List.drop_one])), hw5.trans (b9.mono (by omega))⟩
  ·exfalso
   rw [if_pos (by omega)] at hr
   split at hr
   ·omega
   ·cases hr
  ·rw [if_neg (by omega), if_pos (by omega)] at hr
   obtain ⟨z, hz, hr⟩ := Option.bind_eq_some_iff.1 hr
   obtain rfl := Option.some.inj hr
   have hzs := hRs _ _ hz (by omega)
   refine (hRep _ z _ hz).mono ?_
   rintro e W2 ⟨rfl, b2⟩
   have s2 := b2.size
   have hB2 := builder_below hB1 b2
   have hw2 := hw1.trans (b2.mono (by omega))
   have h02 : (⟨#[48, 46]⟩ : ByteArray).size = 2 := rfl
   have hza : ((⟨#[48, 46]⟩ : ByteArray) ++ z).size = 2 + z.size := by rw [ByteArray.size_append]; omega
   have hzb : ((⟨#[48, 46]⟩ : ByteArray) ++ z ++ d).size = 2 + z.size + d.size := by rw [ByteArray.size_append]; omega
   go_wp2_with (fail)
   refine (Tryz.ws (w.heap.size + 1) (w.heap.size + 1) _ _ _ hB2 (by simp) (by omega) (by omega)).mono ?_
   rintro e W5 ⟨rfl, hB5, b5⟩
   have s5 := b5.size
   have hw5 := hw2.trans (b5.mono (by omega))
   go_wp2_with (fail)
   refine (Tryz.st (w.heap.size + 1) (w.heap.size + 1) _ _ hB5 (by omega)).mono ?_
   rintro e W9 ⟨rfl, b9⟩
   go_wp2_with (fail)
   go_ret
   exact ⟨congrArg (fun s => Ending.returned (Value.string s)) (ba_ext (by simp only [ba_app, List.append_assoc, List.nil_append, List.append_nil, List.singleton_append, List.cons_append, List.toList_toArray, if_true, Bool.false_eq_true, if_false, ByteArray.data_extract, Array.toList_extract, List.extract_eq_take_drop, List.drop_zero, Nat.sub_zero, List.drop_one])), hw5.trans (b9.mono (by omega))⟩
  ·rw [if_neg (by omega), if_neg (by omega), if_pos (by omega)] at hr
   obtain rfl := Option.some.inj hr
   have h46 : (⟨#[46]⟩ : ByteArray).size = 1 := rfl
   have hxa := hex 0 (x + 1).toNat
   have hxb := hex (x + 1).toNat d.size
   have hza : (d.extract 0 (x + 1).toNat ++ (⟨#[46]⟩ : ByteArray)).size = (d.extract 0 (x + 1).toNat).size + 1 := by rw [ByteArray.size_append, h46]
   have hzb : (d.extract 0 (x + 1).toNat ++ (⟨#[46]⟩ : ByteArray) ++ d.extract (x + 1).toNat d.size).size = (d.extract 0 (x + 1).toNat).size + 1 + (d.extract (x + 1).toNat d.size).size := by rw [ByteArray.size_append, hza]
   have hB2 : Lib.IsBuilder 176 5 (w.heap.size + 1) (w.heap.size + 1) (Lib.byteCells ([45] : List UInt8)) W1.drew.drew := by
    rcases hB1 with h | h
    ·exact .inl h.drew
    ·exact .inr h.drew
   have hs2 : w.heap.size + 2 ≤ W1.drew.drew.heap.size := hs1
   have q1 : x + 1 ≤ (d.size : Int) := by omega
   have q2 : 0 ≤ x + 1 := by omega
   have q3 : IntKind.i64.wrap (x + 1) = x + 1 := by simp [IntKind.wrap, IntKind.bits, IntKind.signed]; omega
   go_region_with (go_at_call 122; refine (Tryz.ws (w.heap.size + 1) (w.heap.size + 1) _ _ _ hB2 (by simp) (by omega) (by omega)).mono ?_; rintro e W5 ⟨rfl, hB5, b5⟩)
   have s5 := b5.size
   have hw5 := hw1.drew.trans (b5.mono (by omega))
   go_wp2_with (fail)
   refine (Tryz.st (w.heap.size + 1) (w.heap.size + 1) _ _ hB5 (by omega)).mono ?_
   rintro e W9 ⟨rfl, b9⟩
   go_wp2_with (fail)
   go_ret
   exact ⟨congrArg (fun s => Ending.returned (Value.string s)) (ba_ext (by simp only [ba_app, List.append_assoc, List.nil_append, List.append_nil, List.singleton_append, List.cons_append, List.toList_toArray, if_true, Bool.false_eq_true, if_false, ByteArray.data_extract, Array.toList_extract, List.extract_eq_take_drop, List.drop_zero, Nat.sub_zero, List.drop_one])), hw5.trans (b9.mono (by omega))⟩
  ·rw [if_neg (by omega), if_neg (by omega), if_neg (by omega)] at hr
   obtain ⟨z, hz, hr⟩ := Option.bind_eq_some_iff.1 hr
   obtain rfl := Option.some.inj hr
   have hzs := hRs _ _ hz (by omega)
   refine (hRep _ z _ hz).mono ?_
   rintro e W2 ⟨rfl, b2⟩
   have s2 := b2.size
   have hB2 := builder_below hB1 b2
   have hw2 := hw1.trans (b2.mono (by omega))
   have hza : (d ++ z).size = d.size + z.size := by rw [ByteArray.size_append]
   go_wp2_with (fail)
   refine (Tryz.ws (w.heap.size + 1) (w.heap.size + 1) _ _ _ hB2 (by simp) (by omega) (by omega)).mono ?_
   rintro e W5 ⟨rfl, hB5, b5⟩
   have s5 := b5.size
   have hw5 := hw2.trans (b5.mono (by omega))
   go_wp2_with (fail)
   refine (Tryz.st (w.heap.size + 1) (w.heap.size + 1) _ _ hB5 (by omega)).mono ?_
   rintro e W9 ⟨rfl, b9⟩
   go_wp2_with (fail)
   go_ret
   exact ⟨congrArg (fun s => Ending.returned (Value.string s)) (ba_ext (by simp only [ba_app, List.append_assoc, List.nil_append, List.append_nil, List.singleton_append, List.cons_append, List.toList_toArray, if_true, Bool.false_eq_true, if_false, ByteArray.data_extract, Array.toList_extract, List.extract_eq_take_drop, List.drop_zero, Nat.sub_zero, List.drop_one])), hw5.trans (b9.mono (by omega))⟩
  ·rw [if_pos (by omega)] at hr
   split at hr
   case isFalse => cases hr
   rename_i hd1
   obtain ⟨it, hit, hr⟩ := Option.bind_eq_some_iff.1 hr
   split at hr
   case isFalse => cases hr
   rename_i hits
   obtain rfl := Option.some.inj hr
   refine (Tryz.ws (w.heap.size + 1) (w.heap.size + 1) ([45] : List UInt8) (d.extract 0 1) _ hB1 (by simp) (Nat.le_trans (hex 0 1) (by omega)) (by omega)).mono ?_
   rintro e W2 ⟨rfl, hB2, b2⟩
   have s2 := b2.size
   have hw2 := hw1.trans (b2.mono (by omega))
   have l2 : (([45] : List UInt8) ++ (d.extract 0 1).data.toList).length ≤ 1000001 := by
    have := hex 0 1
    have h1 : (d.extract 0 1).data.toList.length = (d.extract 0 1).size := by simp
    rw [List.length_append, h1]; simp; omega
   have hse : ((⟨#[101]⟩ : ByteArray) ++ it).size ≤ 2000000 := by rw [ByteArray.size_append]; have h1 : (⟨#[101]⟩ : ByteArray).size = 1 := rfl; omega
   have hsd : ((⟨#[46]⟩ : ByteArray) ++ d.extract 1 d.size).size ≤ 2000000 := by rw [ByteArray.size_append]; have := hex 1 d.size; have h1 : (⟨#[46]⟩ : ByteArray).size = 1 := rfl; omega
   have hx1' := hex 1 d.size
   have fin : ∀ (L3 : List UInt8) (W3 : World), w.heap.size + 2 ≤ W3.heap.size → L3.length ≤ 4000000 → Lib.IsBuilder 176 5 (w.heap.size + 1) (w.heap.size + 1) (Lib.byteCells L3) W3 → Below w.heap.size w W3 →
     Calls Tryz.prog 123 #[.int .i64 x] W3 (fun e w' => e = .returned (.string it) ∧ Lib.IsBuilder 176 5 (w.heap.size + 1) (w.heap.size + 1) (Lib.byteCells L3) w' ∧ Below w.heap.size w w' ∧ W3.heap.size ≤ w'.heap.size) := by
    intro L3 W3 h1 h2 h3 h4
    refine (hI it hit W3 h4).mono ?_
    rintro e w' ⟨h5, h6⟩
    exact ⟨h5, builder_below h3 h6, h4.trans (h6.mono (by omega)), h6.size⟩
   go_wp2_with (fail)
   ·rename_i hd2
    refine (Tryz.ws (w.heap.size + 1) (w.heap.size + 1) _ _ _ hB2 (by omega) (by omega) (by omega)).mono ?_
    rintro e W3 ⟨rfl, hB3, b3⟩
    have s3 := b3.size
    have hw3 := hw2.trans (b3.mono (by omega))
    have l3 : (([45] : List UInt8) ++ (d.extract 0 1).data.toList ++ ((⟨#[46]⟩ : ByteArray) ++ d.extract 1 d.size).data.toList).length ≤ 3500000 := by
     have h1 : ((⟨#[46]⟩ : ByteArray) ++ d.extract 1 d.size).data.toList.length = ((⟨#[46]⟩ : ByteArray) ++ d.extract 1 d.size).size := ba_len _
     rw [List.length_append, h1]; omega
    go_wp2_with (fail)
    refine (fin _ W3 (by omega) (by omega) hB3 hw3).mono ?_
    rintro e W4 ⟨rfl, hB4, hw4, s4⟩
    go_wp2_with (fail)
    refine (Tryz.ws (w.heap.size + 1) (w.heap.size + 1) _ _ _ hB4 (by omega) (by omega) (by omega)).mono ?_
    rintro e W5 ⟨rfl, hB5, b5⟩
    have s5 := b5.size
    have hw5 := hw4.trans (b5.mono (by omega))
    go_wp2_with (fail)
    have hd3 : d.size > 1 := by omega
    refine (Tryz.st (w.heap.size + 1) (w.heap.size + 1) _ _ hB5 (by omega)).mono ?_
    rintro e W9 ⟨rfl, b9⟩
    go_wp2_with (fail)
    go_ret
    exact ⟨congrArg (fun s => Ending.returned (Value.string s)) (ba_ext (by simp only [ba_app, List.append_assoc, if_pos hd3, List.nil_append, List.append_nil, List.singleton_append, List.cons_append, List.toList_toArray, if_true, Bool.false_eq_true, if_false, ByteArray.data_extract, Array.toList_extract, List.extract_eq_take_drop, List.drop_zero, Nat.sub_zero, List.drop_one])), hw5.trans (b9.mono (by omega))⟩
   ·rename_i hd2
    refine (fin _ W2 (by omega) (by omega) hB2 hw2).mono ?_
    rintro e W4 ⟨rfl, hB4, hw4, s4⟩
    go_wp2_with (fail)
    refine (Tryz.ws (w.heap.size + 1) (w.heap.size + 1) _ _ _ hB4 (by omega) (by omega) (by omega)).mono ?_
    rintro e W5 ⟨rfl, hB5, b5⟩
    have s5 := b5.size
    have hw5 := hw4.trans (b5.mono (by omega))
    go_wp2_with (fail)
    have hd3 : ¬ d.size > 1 := by omega
    refine (Tryz.st (w.heap.size + 1) (w.heap.size + 1) _ _ hB5 (by omega)).mono ?_
    rintro e W9 ⟨rfl, b9⟩
    go_wp2_with (fail)
    go_ret
    exact ⟨congrArg (fun s => Ending.returned (Value.string s)) (ba_ext (by simp only [ba_app, List.append_assoc, if_neg hd3, List.nil_append, List.append_nil, List.singleton_append, List.cons_append, List.toList_toArray, if_true, Bool.false_eq_true, if_false, ByteArray.data_extract, Array.toList_extract, List.extract_eq_take_drop, List.drop_zero, Nat.sub_zero, List.drop_one])), hw5.trans (b9.mono (by omega))⟩
  ·exfalso
   rw [if_pos (by omega)] at hr
   split at hr
   ·omega
   ·cases hr
end Go.Proofs
namespace Go.Proofs.YtnkpmjhlkmlmbaaGreatDoor.Eng
open Go.RowKit Go.Proofs
theorem znM {P : Program} {M0 : Mem} {f : Nat} {F : Fun} (ok : qJ P M0 f F) {w : World} (h0 : Ext M0 (qc4 w)) {args : Array Value} {ls : List V} {r : F.S.R}
  (hs : args.size = F.S.ps.length) (ha : ∀ (i : Nat) (v : Value), args[i]? = some v → RV (qc4 w) (fun _ => none) v (qh (Ent F.S ls).t i))
  (hr : app (qo F.S.ps) F.f ls = some r) :
  Calls P f args w fun e w' => ∃ v M' φ', e = .returned v ∧ RV M' φ' v (qaQ (ql (Ent F.S ls).nx F.S.rs (F.S.un r)).1) ∧ Below w.heap.size w w' := by
 have hrel : Rel (qc4 w) (fun _ => none) (qc (Ent F.S ls).O) w := by
  refine ⟨fun _ _ _ h => h, ?_, ?_, ?_⟩
  ·intro id p h; cases h
  ·intro id p h; cases h
  ·intro id id' p p' _ h; cases h
 refine (ok.call (qc4 w) (fun _ => none) w args ls r h0 ⟨hrel, hs, ha, fun _ _ => rfl⟩ hr).mono fun e w' h => ?_
 obtain ⟨v, he, _, M', φ', hrv, _, hst, _⟩ := h
 exact ⟨v, M', φ', he, hrv, hst.kept.os, hst.kept.tape, hst.kept.output, hst.kept.size, fun k hk => hst.kept.block k hk fun _ => qgO⟩
theorem zaS.ok : ∀ k, qJ Tryz.prog za0 65 (zaS.F k) := fun k => by
 refine ⟨⟨Tryz.f65, qdF Tryz.f65, Tryz.func65, by kernel_rfl, by kernel_rfl⟩, rfl, rfl, fun M φ w args ls r hgl hc hr => ?_⟩
 have hlf : qe [.b, .s, .i .i64] ls = true := qap hr
 obtain ⟨neg, d, x, rfl⟩ : ∃ neg d x, ls = [.bool neg, .str d, .int .i64 x] := by
  match ls, hlf with
  | [a, b, c], h =>
   have h : qe [.b, .s, .i .i64] [a, b, c] = true := h
   simp only [qe, Bool.and_true, Bool.and_eq_true] at h
   obtain ⟨h1, h2, h3⟩ := h
   cases a <;> first | (cases h1; done) | skip
   cases b <;> first | (cases h2; done) | skip
   cases c <;> first | (cases h3; done) | skip
   rw [← qF h3]
   exact ⟨_, _, _, rfl⟩
  | [], h => cases h
  | [_], h => simp [qe] at h
  | [_, _], h => simp [qe] at h
  | _ :: _ :: _ :: _ :: _, h => simp [qe] at h
 have hr : zaS.f k neg d x = some r := hr
 have hargs : args = #[.agg #[.bool neg, .string d, .int .i64 x]] := by
  have hs : args.size = 1 := hc.size
  have h0 : args[0]? = some (args[0]'(by omega)) := Array.getElem?_eq_getElem _
  obtain ⟨a, e, has, hg⟩ := (show RA M φ _ (.agg [.bool neg, .str d, .int .i64 x]) from hc.args 0 _ h0)
  obtain ⟨u0, g0, r0⟩ := hg 0 _ rfl
  obtain ⟨u1, g1, r1⟩ := hg 1 _ rfl
  obtain ⟨u2, g2, r2⟩ := hg 2 _ rfl
  have e0 : u0 = .bool neg := r0
  have e1 : u1 = .string d := r1
  have e2 : u2 = .int .i64 x := r2.1
  have ea : a = #[.bool neg, .string d, .int .i64 x] := by
   apply Array.ext_getElem?
   intro i
   match i with
   | 0 => rw [g0, e0]; rfl
   | 1 => rw [g1, e1]; rfl
   | 2 => rw [g2, e2]; rfl
   | i + 3 => rw [Array.getElem?_eq_none (by rw [has]; simp), Array.getElem?_eq_none (by simp)]
  apply Array.ext_getElem?
  intro i
  cases i with
  | zero => rw [h0, e, ea]; rfl
  | succ i => rw [Array.getElem?_eq_none (by omega), Array.getElem?_eq_none (by simp)]
 have hx : -1000000 ≤ x ∧ x ≤ 1000000 := by
  have h := hr
  unfold zaS.f at h
  split at h
  ·rename_i hb; exact hb.2
  ·cases h
 have hcall := Tryz.plain_walk k neg d x r hr (by omega) (by omega) w fun it hit w1 hb1 => by
  refine (znM (zfk.ok k) (w := w1) (args := #[.int .i64 x]) (ls := [.int .i64 x]) (r := it) ?_ rfl ?_ hit).mono ?_
  ·intro b o v hv
   have h1 := hc.rel.holds b o v (hgl b o v hv)
   show w1.cell? _ = _
   rw [hb1.cell (qa5 h1)]
   exact h1
  ·intro i v hv
   cases i with
   | zero =>
    obtain rfl := Option.some.inj hv
    exact ⟨rfl, qbO _⟩
   | succ i => simp at hv
  ·rintro e w' ⟨v, M', φ', he, hrv, hbl⟩
   have hv : v = .string it := hrv
   exact ⟨by rw [he, hv], hbl⟩
 rw [hargs]
 refine hcall.mono fun e w' ⟨he, hb⟩ => ⟨_, he, rfl, M, φ, rfl, ?_, ?_, qp.refl φ⟩
 all_goals
  have hg := qh2 hb
  have hB : qaa (zaS.F k).S (Ent (zaS.F k).S [.bool neg, .str d, .int .i64 x]).nx r = fun _ => .gone := rfl
  have hB0 : qc (Ent (zaS.F k).S [.bool neg, .str d, .int .i64 x]).O = fun _ => .gone := rfl
  rw [hB]
 ·have := hc.rel.grew hg
  rwa [hB0] at this
 ·rw [hB0]
  exact ⟨Ext.refl M, hg.kp _, fun _ _ h => .inl h, fun _ _ _ h => .inl h⟩
set_option maxRecDepth 100000
theorem zfN.ok : Fo 64 (sg [.ag [.b, .s, .i .i64], .lf (.i .i64)] [.lf (.b)]) fun _ => zfN.f := fo 13 Tryz.func64 .z
theorem z6.ok : Fo 18 (sg [.lf (.i .u8), .lf (.i .u64)] [.lf (.s), .lf (.i .i64)]) z6.f := fo 85 Tryz.func18 (.o zdd.ok (.o zdb.ok (.o zeV.ok (.o zfM.ok (.o zde.ok (.o zfO.ok (.o zfN.ok (.o zaS.ok .z)))))))) [[tt, tt, tt, tt, ff, tt, ff], [tt, ff, tt, tt], [tt, tt, tt, tt, ff, tt, ff, ff, tt, ff, ff, tt, tt, ff, tt], [tt, tt, tt, tt, ff, tt, ff, ff, tt, ff, ff, tt, tt, tt]] (fun k => [⟨[(9, .bx [.b, .s, .i .i64]), (10, .cl 59 [[.i .u8], [.i .u64]]), (11, .lf (.i .i64))], z6.l0 k⟩, ⟨[(2, .ip [.i .u8]), (3, .ip [.i .u64]), (6, .lf (.s)), (8, .lf (.i .i64)), (28, .lf (.b))], z6.j0 k⟩, ⟨[(9, .bx [.b, .s, .i .i64]), (10, .cl 59 [[.i .u8], [.i .u64]]), (11, .lf (.i .i64)), (12, .bx [.b, .s, .i .i64]), (13, .bx [.b, .s, .i .i64]), (14, .lf (.b)), (15, .lf (.b)), (57, .lf (.b))], z6.j3 k⟩, ⟨[(9, .bx [.b, .s, .i .i64]), (10, .cl 59 [[.i .u8], [.i .u64]]), (11, .lf (.i .i64)), (12, .bx [.b, .s, .i .i64]), (13, .bx [.b, .s, .i .i64]), (14, .lf (.b)), (15, .lf (.b))], z6.j5 k⟩]) (frz := [2, 3])
theorem zcH.ok : Fo 32 (sg [.lf (.i .u8), .ag [.i .u64, .i .u64]] [.lf (.s), .lf (.i .i64)]) zcH.f := fo 40 Tryz.func32 (.o z6.ok (.o zf8.ok (.o zcU.ok .z))) [[tt, tt, tt, tt, tt]] fun k => [⟨[(7, .lf (.s)), (9, .lf (.s))], zcH.j1 k⟩]
theorem zc2.ok : Fo 34 (sg [] [.lf (.b)]) zc2.f := fo 30 Tryz.func34 (.o zcH.ok (.o zaA.ok .z))
theorem zbr.ok : Fo 77 (sg [.lf (.s), .lf (.i .i64)] [.lf (.i .i64)]) zbr.f := fo 31 Tryz.func77 .z [[tt, tt, ff, ff]] fun k => [⟨[(0, .lf (.s)), (1, .lf (.i .i64)), (5, .lf (.i .i64))], zbr.l0 k⟩]
theorem zbO.ok : Fo 197 (sg [.lf (.s)] [.lf (.b)]) zbO.f := fo 33 Tryz.func197 .z [[tt, ff, tt, ff]] fun k => [⟨[(0, .lf (.s)), (3, .lf (.i .i64))], zbO.l0 k⟩]
theorem zZ.ok : Fo 137 (sg [.lf (.s)] [.lf (.is .u32), .lf (.i .i64)]) zZ.f := fo 57 Tryz.func137 (.o zbO.ok .z) [[tt, tt, tt, tt, ff, tt, ff], [tt, tt, tt, tt, ff, tt, ff, ff, tt, ff, ff, tt, ff, tt, ff]] fun k => [⟨[(0, .lf (.s)), (4, .ow .u32), (5, .lf (.i .i64))], zZ.l0 k⟩, ⟨[(0, .lf (.s)), (4, .ow .u32), (5, .lf (.i .i64)), (6, .lf (.i .u64)), (7, .lf (.i .i64))], zZ.l1 k⟩]
theorem zbg.ok : Fo 78 (sg [.lf (.s)] [.lf (.is .u32)]) zbg.f := fo 21 Tryz.func78 (.o zZ.ok .z) [[tt, ff, ff]] fun k => [⟨[(0, .lf (.s))], zbg.l0 k⟩]
theorem zl.ok : Fo 23 (sg [.lf (.s)] [.ag [.b, .s, .is .u32, .i .i64], .lf (.b)]) zl.f := fo 157 Tryz.func23 (.o zbr.ok (.o zbg.ok .z)) [[tt, tt, tt, tt, tt, tt, tt, tt, tt, tt, tt, tt, tt, tt, tt, tt, tt, tt, tt, tt, ff, tt, ff], [tt, tt, tt, tt, tt], [tt, tt, tt, tt, tt, tt, tt, tt, tt, tt, ff, tt], [tt, tt, tt, tt, tt, tt, tt, tt, tt, tt, tt], [tt, tt, tt, tt, tt, tt, tt, tt, tt, tt, tt, tt, tt, tt, tt, tt, ff, tt], [tt, tt, tt, tt, tt, tt, tt, tt, tt, tt, tt, tt, tt, tt, tt, tt, tt], [tt, tt, tt, tt, tt, tt, tt, tt, tt, tt, tt, tt, tt, tt, tt, tt, tt, tt, tt, tt, tt, tt]] fun k => [⟨[(0, .lf (.s)), (2, .bx [.b, .s, .is .u32, .i .i64]), (4, .bx [.b, .s, .is .u32, .i .i64]), (8, .lf (.b)), (9, .lf (.i .i64)), (10, .lf (.i .i64))], zl.l0 k⟩, ⟨[(0, .lf (.s)), (2, .bx [.b, .s, .is .u32, .i .i64]), (4, .bx [.b, .s, .is .u32, .i .i64]), (5, .lf (.i .i64))], zl.j2 k⟩, ⟨[(0, .lf (.s)), (2, .bx [.b, .s, .is .u32, .i .i64]), (4, .bx [.b, .s, .is .u32, .i .i64]), (5, .lf (.i .i64)), (7, .lf (.s)), (53, .lf (.b))], zl.j5 k⟩, ⟨[(0, .lf (.s)), (2, .bx [.b, .s, .is .u32, .i .i64]), (4, .bx [.b, .s, .is .u32, .i .i64]), (5, .lf (.i .i64)), (7, .lf (.s))], zl.j7 k⟩, ⟨[(0, .lf (.s)), (2, .bx [.b, .s, .is .u32, .i .i64]), (4, .bx [.b, .s, .is .u32, .i .i64]), (5, .lf (.i .i64)), (8, .lf (.b)), (108, .lf (.b))], zl.j10 k⟩, ⟨[(0, .lf (.s)), (2, .bx [.b, .s, .is .u32, .i .i64]), (4, .bx [.b, .s, .is .u32, .i .i64]), (5, .lf (.i .i64)), (8, .lf (.b))], zl.j11 k⟩, ⟨[(2, .bx [.b, .s, .is .u32, .i .i64]), (4, .bx [.b, .s, .is .u32, .i .i64]), (9, .lf (.i .i64))], zl.j15 k⟩]
theorem zco.ok : Fo 76 (sg [.lf (.i .u8)] [.lf (.i .i64)]) fun _ => zco.f := fo 5 Tryz.func76 .z
theorem zaR.ok : Fo 113 (sg [.lf (.i .u8)] [.lf (.i .i64)]) fun _ => zaR.f := fo 5 Tryz.func113 .z
theorem zb6.ok : Fo 114 (sg [.lf (.i .u8)] [.lf (.i .u64)]) fun _ => zb6.f := fo 5 Tryz.func114 .z
theorem zb5.ok : Fo 112 (sg [.lf (.i .u8), .ag [.b, .i .i64, .i .u64]] [.lf (.i .u64)]) fun _ => zb5.f := fo 22 Tryz.func112 (.o zaR.ok (.o zb6.ok .z))
theorem zdG.ok : Fo 53 (sg [.lf (.i .u8)] [.lf (.i .u64)]) fun _ => zdG.f := fo 12 Tryz.func53 (.o zco.ok (.o zb5.ok (.o zaR.ok .z)))
theorem zcI.ok : Fo 54 (sg [.lf (.i .u8), .lf (.b)] [.lf (.i .u64)]) fun _ => zcI.f := fo 11 Tryz.func54 (.o zco.ok (.o zb5.ok .z))
theorem zcp.ok : Fo 55 (sg [.lf (.i .u8), .lf (.i .u64), .lf (.b)] [.lf (.i .u64)]) fun _ => zcp.f := fo 17 Tryz.func55 (.o zb6.ok .z)
theorem zc3.ok : Fo 73 (sg [.lf (.is .u32), .lf (.i .i64)] [.lf (.i .u32)]) fun _ => zc3.f := fo 23 Tryz.func73 .z
theorem zak.ok : Fo 138 (sg [.lf (.is .u32)] [.lf (.i .i64)]) zak.f := fo 31 Tryz.func138 (.o zc3.ok .z) [[tt, tt, ff, ff]] fun k => [⟨[(0, .lf (.is .u32)), (3, .lf (.i .i64))], zak.l0 k⟩]
theorem zW.ok : Fo 142 (sg [.lf (.is .u32)] [.lf (.i .i64)]) zW.f := fo 25 Tryz.func142 .z [[tt, tt, tt, ff, tt, ff]] fun k => [⟨[(3, .lf (.i .i64)), (4, .lf (.i .u32))], zW.l0 k⟩]
theorem zv.ok : Fo 132 (sg [.ow .u32] [.ow .u32]) zv.f := fo 21 Tryz.func132 .z [[tt, tt, ff, ff]] fun k => [⟨[(0, .ow .u32), (3, .lf (.i .i64))], zv.l0 k⟩]
theorem zv.ok1 : Fo 132 (sg [.lf (.is .u32)] [.lf (.is .u32)]) zv.f := fo 21 Tryz.func132 .z [[tt, tt, ff, ff]] fun k => [⟨[(0, .lf (.is .u32)), (3, .lf (.i .i64))], zv.l0 k⟩]
theorem zac.ok : Fo 139 (sg [.lf (.is .u32), .lf (.i .i64)] [.lf (.is .u32), .lf (.b)]) zac.f := fo 63 Tryz.func139 (.t zv.ok zv.ok1 (.o zak.ok (.o zW.ok .z))) [[tt, tt, tt, tt, tt, ff, tt, ff]] fun k => [⟨[(0, .lf (.is .u32)), (6, .lf (.b)), (7, .ow .u32), (8, .lf (.i .i64)), (9, .lf (.i .i64))], zac.l0 k⟩]
theorem zad.ok : Fo 79 (sg [.lf (.b), .lf (.is .u32), .lf (.i .i64)] [.ag [.b, .is .u32, .i .i64]]) zad.f := fo 28 Tryz.func79 (.o zak.ok (.o zac.ok .z))
theorem zc4.ok : Fo 126 (sg [.lf (.i .u64)] [.lf (.is .u32)]) zc4.f := fo 10 Tryz.func126 (.t zv.ok zv.ok1 .z)
theorem zA.ok : Fo 140 (sg [.lf (.is .u32), .lf (.is .u32)] [.lf (.is .u32)]) zA.f := fo 85 Tryz.func140 (.t zv.ok zv.ok1 .z) [[tt, tt, tt, tt, tt, ff, tt, ff], [tt, tt, tt, tt, tt, ff, tt, ff, ff, tt, ff, ff, tt, tt, ff, tt, ff], [tt, tt, tt, tt, tt, ff, tt, ff, ff, tt, ff, ff, tt, tt]] fun k => [⟨[(0, .lf (.is .u32)), (1, .lf (.is .u32)), (5, .ow .u32), (6, .lf (.i .u64)), (7, .lf (.i .u64)), (8, .lf (.i .i64))], zA.l0 k⟩, ⟨[(0, .lf (.is .u32)), (1, .lf (.is .u32)), (5, .ow .u32), (6, .lf (.i .u64)), (7, .lf (.i .u64)), (8, .lf (.i .i64)), (10, .lf (.i .i64))], zA.l1 k⟩, ⟨[(0, .lf (.is .u32)), (1, .lf (.is .u32)), (5, .ow .u32), (6, .lf (.i .u64)), (7, .lf (.i .u64)), (8, .lf (.i .i64)), (9, .lf (.i .i64))], zA.j3 k⟩]
theorem zaB.ok : Fo 141 (sg [.lf (.i .u32), .lf (.i .i64)] [.lf (.is .u32)]) zaB.f := fo 27 Tryz.func141 (.o zc4.ok (.o zA.ok .z)) [[tt, tt, tt, ff, ff], [tt, tt, tt, ff, ff, ff, tt, ff, tt]] fun k => [⟨[(1, .lf (.i .i64)), (5, .lf (.is .u32)), (6, .lf (.is .u32))], zaB.l0 k⟩, ⟨[(1, .lf (.i .i64)), (5, .lf (.is .u32)), (6, .lf (.is .u32))], zaB.j1 k⟩]
theorem zdJ.ok : Fo 81 (sg [.lf (.i .i64)] [.ag [.b, .is .u32, .i .i64]]) zdJ.f := fo 6 Tryz.func81 (.o zad.ok (.o zaB.ok .z))
theorem zdF.ok : Fo 80 (sg [.ag [.b, .is .u32, .i .i64], .ag [.b, .is .u32, .i .i64]] [.ag [.b, .is .u32, .i .i64]]) zdF.f := fo 21 Tryz.func80 (.o zad.ok (.o zA.ok .z))
theorem zbA.ok : Fo 82 (sg [.ag [.b, .is .u32, .i .i64]] [.lf (.i .i64)]) fun _ => zbA.f := fo 9 Tryz.func82 .z
theorem zaJ.ok : Fo 83 (sg [.ag [.b, .is .u32, .i .i64]] [.lf (.i .i64)]) zaJ.f := fo 13 Tryz.func83 (.o zW.ok .z)
theorem zbR.ok : Fo 127 (sg [.lf (.i .u8)] [.lf (.i .i64)]) fun _ => zbR.f := fo 5 Tryz.func127 .z
theorem zb4.ok : Fo 133 (sg [.ag [.b, .is .u32, .i .i64], .lf (.i .i64)] [.ag [.b, .is .u32, .i .i64]]) fun _ => zb4.f := fo 15 Tryz.func133 .z
theorem zz.ok : Fo 71 (sg [.lf (.is .u32), .lf (.is .u32)] [.lf (.is .u32)]) zz.f := fo 55 Tryz.func71 (.t zv.ok zv.ok1 .z) [[tt, tt, tt, ff, tt, ff], [tt, tt, tt, ff, tt, ff, ff, tt, ff, ff, tt], [tt, tt, tt, ff, tt, ff, ff, tt, ff, ff, tt, tt]] fun k => [⟨[(0, .lf (.is .u32)), (1, .lf (.is .u32)), (5, .ow .u32), (6, .lf (.i .u64)), (7, .lf (.i .i64))], zz.l0 k⟩, ⟨[(0, .lf (.is .u32)), (1, .lf (.is .u32)), (5, .ow .u32), (6, .lf (.i .u64)), (7, .lf (.i .i64))], zz.j2 k⟩, ⟨[(0, .lf (.is .u32)), (1, .lf (.is .u32)), (5, .ow .u32), (6, .lf (.i .u64)), (7, .lf (.i .i64))], zz.j3 k⟩]
theorem zc5.ok : Fo 229 (sg [.ag [.b, .is .u32, .i .i64]] [.ag [.b, .is .u32, .i .i64]]) zc5.f := fo 30 Tryz.func229 (.o zz.ok (.o zad.ok (.o zac.ok .z)))
theorem zby.ok : Fo 231 (sg [.lf (.is .u32), .lf (.is .u32)] [.lf (.b)]) zby.f := fo 26 Tryz.func231 .z [[tt, tt, ff, tt, ff]] fun k => [⟨[(0, .lf (.is .u32)), (1, .lf (.is .u32)), (5, .lf (.i .i64))], zby.l0 k⟩]
theorem zcn.ok : Fo 178 (sg [.ag [.b, .is .u32, .i .i64], .ag [.b, .is .u32, .i .i64]] [.lf (.b)]) zcn.f := fo 24 Tryz.func178 (.o zby.ok .z)
theorem zc6.ok : Fo 192 (sg [.lf (.i .i64)] [.ag [.b, .is .u32, .i .i64]]) fun _ => zc6.f := fo 6 Tryz.func192 .z
theorem zas.ok : Fo 130 (sg [.lf (.is .u32), .lf (.i .i64)] [.lf (.is .u32)]) zas.f := fo 45 Tryz.func130 (.t zv.ok zv.ok1 .z) [[tt, tt, tt, tt, tt, ff, tt, ff]] fun k => [⟨[(0, .lf (.is .u32)), (5, .ow .u32), (6, .lf (.i .i64)), (7, .lf (.i .u64)), (8, .lf (.i .i64))], zas.l0 k⟩]
theorem zbf.ok : Fo 194 (sg [.lf (.is .u32), .lf (.is .u32)] [.lf (.i .i64)]) zbf.f := fo 41 Tryz.func194 .z [[tt, tt, ff, tt, ff]] fun k => [⟨[(0, .lf (.is .u32)), (1, .lf (.is .u32)), (5, .lf (.i .i64))], zbf.l0 k⟩]
theorem zG.ok : Fo 195 (sg [.lf (.is .u32), .lf (.is .u32)] [.lf (.is .u32)]) zG.f := fo 47 Tryz.func195 (.t zv.ok zv.ok1 .z) [[tt, tt, tt, ff, tt, ff], [tt, tt, tt, ff, tt, ff, ff, tt, ff, ff, tt, tt], [tt, tt, tt, ff, tt, ff, ff, tt, ff, ff, tt, tt, tt, tt, tt]] fun k => [⟨[(0, .lf (.is .u32)), (1, .lf (.is .u32)), (5, .ow .u32), (6, .lf (.i .u64)), (7, .lf (.i .i64))], zG.l0 k⟩, ⟨[(0, .lf (.is .u32)), (1, .lf (.is .u32)), (5, .ow .u32), (7, .lf (.i .i64)), (8, .lf (.i .u64))], zG.j1 k⟩, ⟨[(0, .lf (.is .u32)), (1, .lf (.is .u32)), (5, .ow .u32), (6, .lf (.i .u64)), (7, .lf (.i .i64)), (8, .lf (.i .u64)), (9, .lf (.i .u64))], zG.j2 k⟩]
theorem zaQ.ok : Fo 143 (sg [.ag [.b, .is .u32, .i .i64], .ag [.b, .is .u32, .i .i64]] [.ag [.b, .is .u32, .i .i64]]) zaQ.f := fo 70 Tryz.func143 (.o zz.ok (.o zad.ok (.o zas.ok (.o zbf.ok (.o zG.ok .z))))) [[tt, tt, tt, tt, tt]] fun k => [⟨[(2, .bx [.b, .is .u32, .i .i64]), (3, .bx [.b, .is .u32, .i .i64]), (4, .bx [.b, .is .u32, .i .i64]), (5, .lf (.i .i64))], zaQ.j2 k⟩]
theorem zeh.ok : Fo 144 (sg [.ag [.b, .is .u32, .i .i64]] [.ag [.b, .is .u32, .i .i64]]) fun _ => zeh.f := fo 12 Tryz.func144 .z
theorem zbQ.ok : Fo 84 (sg [.ag [.b, .is .u32, .i .i64], .ag [.b, .is .u32, .i .i64]] [.ag [.b, .is .u32, .i .i64]]) zbQ.f := fo 9 Tryz.func84 (.o zaQ.ok (.o zeh.ok .z))
theorem zdD.ok : Fo 25 (sg [.ag [.b, .is .u32, .i .i64], .ag [.b, .is .u32, .i .i64]] [.lf (.i .i64)]) zdD.f := fo 36 Tryz.func25 (.o zbA.ok (.o zaJ.ok (.o zbQ.ok .z)))
theorem zdI.ok : Fo 230 (sg [.ag [.b, .is .u32, .i .i64]] [.ag [.b, .is .u32, .i .i64]]) fun _ => zdI.f := fo 5 Tryz.func230 (.o zb4.ok .z)
theorem zbB.ok : Fo 174 (sg [.lf (.i .u8), .ag [.b, .is .u32, .i .i64], .lf (.i .i64)] [.ag [.b, .is .u32, .i .i64]]) zbB.f := fo 71 Tryz.func174 (.o zdD.ok (.o zbQ.ok (.o zb4.ok (.o zaQ.ok (.o zcn.ok (.o zc6.ok (.o zc5.ok (.o zdI.ok .z)))))))) [[tt, tt, tt, tt, tt, tt]] fun k => [⟨[(0, .lf (.i .u8)), (2, .lf (.i .i64)), (4, .bx [.b, .is .u32, .i .i64]), (6, .bx [.b, .is .u32, .i .i64]), (7, .bx [.b, .is .u32, .i .i64]), (8, .bx [.b, .is .u32, .i .i64]), (9, .bx [.b, .is .u32, .i .i64]), (10, .bx [.b, .is .u32, .i .i64])], zbB.j1 k⟩]
theorem zdH.ok : Fo 175 (sg [.lf (.i .u8)] [.lf (.i .i64)]) fun _ => zdH.f := fo 5 Tryz.func175 .z
theorem za4.ok : Fo 176 (sg [.lf (.i .u8), .lf (.i .u8), .lf (.b)] [.lf (.i .u64)]) za4.f := fo 31 Tryz.func176 (.o zcI.ok .z) [[tt, ff, tt]] fun k => [⟨[(0, .lf (.i .u8)), (2, .lf (.b)), (23, .lf (.b))], za4.j0 k⟩]
theorem zeS.ok : Fo 68 (sg [.ag [.b, .is .u32, .i .i64]] [.ag [.b, .is .u32, .i .i64]]) fun _ => zeS.f := fo 5 Tryz.func68 .z
theorem zat.ok : Fo 177 (sg [.lf (.i .u8), .ag [.b, .is .u32, .i .i64]] [.lf (.i .u64), .lf (.b)]) zat.f := fo 92 Tryz.func177 (.o zbA.ok (.o zaJ.ok (.o zb5.ok (.o zaR.ok (.o zbR.ok (.o zas.ok (.o zW.ok (.o zdH.ok .z)))))))) [[tt, tt, tt, tt, tt, tt], [tt, tt, tt, tt, tt, tt, tt, tt, tt]] fun k => [⟨[(0, .lf (.i .u8)), (3, .bx [.b, .is .u32, .i .i64]), (7, .lf (.i .i64))], zat.j3 k⟩, ⟨[(0, .lf (.i .u8)), (3, .bx [.b, .is .u32, .i .i64]), (7, .lf (.i .i64)), (9, .lf (.i .u64))], zat.j4 k⟩]
theorem zbq.ok : Fo 115 (sg [.lf (.i .u8), .lf (.i .u8), .ag [.b, .is .u32, .i .i64]] [.lf (.i .u64), .lf (.i .u8)]) zbq.f := fo 73 Tryz.func115 (.o zcp.ok (.o zeS.ok (.o zbA.ok (.o zaJ.ok (.o zaR.ok (.o zbR.ok (.o zbB.ok (.o zdH.ok (.o za4.ok (.o zat.ok (.o zcn.ok .z))))))))))) [[tt, tt, tt, tt, tt, tt]] fun k => [⟨[(0, .lf (.i .u8)), (1, .lf (.i .u8)), (5, .bx [.b, .is .u32, .i .i64]), (8, .lf (.i .i64)), (9, .lf (.i .i64)), (10, .lf (.i .i64))], zbq.j1 k⟩]
theorem zbz.ok : Fo 193 (sg [.lf (.is .u32), .lf (.i .u32)] [.lf (.is .u32), .lf (.is .u32)]) zbz.f := fo 43 Tryz.func193 (.o zc4.ok (.t zv.ok zv.ok1 .z)) [[tt, tt, tt, ff, tt, ff]] fun k => [⟨[(0, .lf (.is .u32)), (1, .lf (.i .u32)), (6, .ow .u32), (7, .lf (.i .u64)), (8, .lf (.i .i64))], zbz.l0 k⟩]
theorem zar.ok : Fo 131 (sg [.lf (.is .u32), .lf (.is .u32)] [.lf (.is .u32), .lf (.is .u32)]) zar.f := fo 75 Tryz.func131 (.o zz.ok (.o zc3.ok (.o zas.ok (.t zv.ok zv.ok1 (.o zac.ok (.o zW.ok (.o zbz.ok (.o zbf.ok (.o zG.ok .z))))))))) [[tt, tt, tt, tt, tt, ff, tt, ff], [tt, tt, tt, tt, tt, ff, tt, ff, ff, tt, ff, ff, tt, tt]] fun k => [⟨[(0, .lf (.is .u32)), (1, .lf (.is .u32)), (6, .ow .u32), (8, .lf (.is .u32)), (10, .lf (.i .i64))], zar.l0 k⟩, ⟨[(0, .lf (.is .u32)), (1, .lf (.is .u32)), (6, .ow .u32), (8, .lf (.is .u32)), (10, .lf (.i .i64))], zar.j2 k⟩]
theorem zdE.ok : Fo 232 (sg [.ag [.b, .is .u32, .i .i64], .lf (.i .i64)] [.ag [.b, .is .u32, .i .i64], .lf (.b)]) zdE.f := fo 33 Tryz.func232 (.o zad.ok (.o zac.ok (.o zW.ok .z)))
theorem zbP.ok : Fo 179 (sg [.ag [.b, .is .u32, .i .i64], .ag [.b, .is .u32, .i .i64], .lf (.i .i64)] [.ag [.b, .is .u32, .i .i64], .lf (.b)]) zbP.f := fo 66 Tryz.func179 (.o zad.ok (.o zas.ok (.o zar.ok (.o zW.ok (.o zdE.ok .z))))) [[tt, tt, tt, tt]] fun k => [⟨[(2, .lf (.i .i64)), (3, .bx [.b, .is .u32, .i .i64]), (4, .bx [.b, .is .u32, .i .i64]), (6, .bx [.b, .is .u32, .i .i64]), (8, .lf (.i .i64))], zbP.j1 k⟩]
theorem zc9.ok : Fo 180 (sg [.ag [.b, .is .u32, .i .i64], .lf (.b)] [.ag [.b, .is .u32, .i .i64]]) zc9.f := fo 22 Tryz.func180 (.o zaJ.ok (.o zbQ.ok (.o zaQ.ok (.o zc6.ok .z))))
theorem zek.ok : Fo 116 (sg [.lf (.i .u8), .lf (.i .u8), .ag [.b, .is .u32, .i .i64], .ag [.b, .is .u32, .i .i64]] [.lf (.i .u64), .lf (.i .u8)]) zek.f := fo 26 Tryz.func116 (.o zbq.ok (.o zbP.ok (.o zc9.ok .z)))
theorem zaK.ok : Fo 56 (sg [.lf (.i .u8), .lf (.i .u8), .lf (.b), .lf (.is .u32), .lf (.i .i64)] [.lf (.i .u64), .lf (.i .u8)]) zaK.f := fo 40 Tryz.func56 (.o zad.ok (.o zdF.ok (.o zdJ.ok (.o zbq.ok (.o zek.ok .z))))) [[tt, tt], [tt, tt, tt]] fun k => [⟨[(0, .lf (.i .u8)), (1, .lf (.i .u8)), (2, .lf (.b)), (3, .lf (.is .u32)), (4, .lf (.i .i64))], zaK.j0 k⟩, ⟨[(0, .lf (.i .u8)), (1, .lf (.i .u8)), (2, .lf (.b)), (3, .lf (.is .u32)), (4, .lf (.i .i64))], zaK.j1 k⟩]
theorem zaC.ok : Fo 17 (sg [.lf (.i .u8), .lf (.i .u8), .lf (.s)] [.lf (.i .u64), .lf (.i .u8), .lf (.i .i64)]) zaC.f := fo 57 Tryz.func17 (.o zl.ok (.o zdG.ok (.o zcI.ok (.o zcp.ok (.o zaK.ok .z)))))
theorem zcK.ok : Fo 92 (sg [.lf (.i .u8)] [.lf (.i .u8)]) fun _ => zcK.f := fo 8 Tryz.func92 .z
theorem zc8.ok : Fo 75 (sg [.lf (.i .u8), .lf (.i .u64)] [.ag [.b, .i .i64, .i .u64]]) fun _ => zc8.f := fo 28 Tryz.func75 (.o zaR.ok (.o zb6.ok .z))
theorem zei.ok : Fo 21 (sg [.lf (.i .u8), .lf (.i .u64)] [.lf (.i .u8)]) fun _ => zei.f := fo 28 Tryz.func21 (.o zc8.ok (.o zco.ok .z))
theorem zcJ.ok : Fo 93 (sg [.lf (.i .u8), .lf (.i .u64)] [.lf (.i .u64)]) fun _ => zcJ.f := fo 19 Tryz.func93 (.o zei.ok (.o zdG.ok (.o zcp.ok (.o zc8.ok .z))))
theorem zda.ok : Fo 91 (sg [.lf (.s)] [.lf (.b)]) zda.f := fo 16 Tryz.func91 (.o zl.ok .z)
theorem zau.ok : Fo 38 (sg [.lf (.i .u8), .lf (.i .u8), .lf (.s)] [.ag [.i .u64, .i .u64, .i .u8, .i .u8], .lf (.i .i64)]) zau.f := fo 186 Tryz.func38 (.o zaC.ok (.o zl.ok (.o zda.ok (.o zcK.ok (.o zcJ.ok .z))))) [[tt, tt, tt, tt, tt, tt, tt, tt, ff, tt, ff]] fun k => [⟨[(0, .lf (.i .u8)), (1, .lf (.i .u8)), (6, .bx [.i .u64, .i .u64, .i .u8, .i .u8]), (13, .lf (.s)), (17, .lf (.i .i64))], zau.l0 k⟩]
theorem zeR.ok : Fo 12 (sg [.lf (.i .u8), .lf (.i .u8), .lf (.s)] [.lf (.b)]) zeR.f := fo 53 Tryz.func12 (.o zc2.ok (.o zaA.ok (.o zbC.ok (.o zau.ok .z))))
end Go.Proofs.YtnkpmjhlkmlmbaaGreatDoor.Eng
