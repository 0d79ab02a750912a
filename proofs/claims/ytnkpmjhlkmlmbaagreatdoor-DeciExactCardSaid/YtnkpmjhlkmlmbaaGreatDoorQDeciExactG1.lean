import Derived.Test.YtnkpmjhlkmlmbaaGreatDoorQDeciExactF1
import Derived.Tactics
import Derived.BigQuiet
import Derived.WalkKit
import Derived.OwnWalk
import Derived.Lib.TrailingZeros
import Derived.Shelf.Lay
import Derived.Ground.NamesProg
import Derived.Shelf.Strings.Repeat
import Derived.Shelf.Small.Strs
import Derived.Shelf.Spec.TrailingZeros
import Derived.Shelf.Lays7
import Derived.Shelf.Strings.Search1
import Derived.Shelf.Strconv.Atoi
import Derived.Lib.AtoiErrMem
import Derived.Shelf.Strings.Builder1
import Derived.BigCall
import Derived.BigRegion
import Derived.RegionCalls
set_option linter.unusedVariables false
set_option linter.unusedSimpArgs false
namespace Go.Proofs.YtnkpmjhlkmlmbaaGreatDoor.Eng
open Go.RowKit Go.Proofs Go
set_option maxRecDepth 100000
def qkt (w : World) : Prop := ∀ j, j < 32 → w.cell? ⟨5, j, none⟩ = some (.int .u8 (Lib.deBruijn32tab.getD j 0))
theorem qn8 (x k idx : Nat) (w : World) (hx0 : ((x : Int) == 0) = false)
  (key : bits BinOp.and IntKind.u32 (x : Int) (-(x : Int) % 4294967296) * 125613361 % 4294967296 / 134217728 = (idx : Int))
  (hi : idx < 32) (hk : k < 32) (hcell : w.cell? ⟨5, idx, none⟩ = some (.int .u8 k)) :
  Calls Tryz.prog 218 #[.int .u32 x] w fun e w' => e = .returned (.int .i64 k) ∧ w' = w := by
 go_enter Tryz.func218, Tryz.ntmps218
 go_wp2_with (simp only [key])
 go_ret
 exact ⟨rfl, rfl⟩
theorem qn9 (w : World) : Calls Tryz.prog 218 #[.int .u32 0] w fun e w' => e = .returned (.int .i64 32) ∧ w' = w := by
 go_enter Tryz.func218, Tryz.ntmps218
 go_wp2
 go_ret
 exact ⟨rfl, rfl⟩
theorem qoa (a b : Nat) (ha : a < 4294967296) (hb : b < 4294967296) : bits .and .u32 (a : Int) (b : Int) = ((a &&& b : Nat) : Int) := by
 have hx : a &&& b < 2 ^ 32 := Nat.and_lt_two_pow _ (by omega)
 have h1 : (BitVec.ofInt 32 (a : Int)).toNat = a := by
  rw [BitVec.ofInt_natCast, BitVec.toNat_ofNat]; exact Nat.mod_eq_of_lt (by omega)
 have h2 : (BitVec.ofInt 32 (b : Int)).toNat = b := by
  rw [BitVec.ofInt_natCast, BitVec.toNat_ofNat]; exact Nat.mod_eq_of_lt (by omega)
 show IntKind.u32.wrap ((BitVec.ofInt 32 (a : Int) &&& BitVec.ofInt 32 (b : Int)).toNat : Int) = _
 have h3 : ∀ n : Int, IntKind.u32.wrap n = n % 4294967296 := fun n => by simp [IntKind.wrap, IntKind.signed, IntKind.bits]
 rw [BitVec.toNat_and, h1, h2, h3]
 omega
theorem qob (x a : Nat) (hx : x < 4294967296) (hx0 : x ≠ 0) (hlow : x &&& (4294967296 - x) = a) :
  bits BinOp.and IntKind.u32 (x : Int) (-(x : Int) % 4294967296) * 125613361 % 4294967296 / 134217728 = ((a * 125613361 % 4294967296 / 134217728 : Nat) : Int) := by
 have e1 : -(x : Int) % 4294967296 = ((4294967296 - x : Nat) : Int) := by omega
 rw [e1, qoa x _ hx (by omega), hlow]
 omega
theorem qoc (a0 r : Int) (w : World) (hT : qkt w) (h : qbe.f a0 = some r) :
  Calls Tryz.prog 218 #[.int .u32 a0] w fun e w' => e = .returned (.int .i64 r) ∧ w' = w := by
 unfold qbe.f at h
 split at h
 case isFalse => cases h
 rename_i hx
 obtain ⟨x, rfl⟩ := Int.eq_ofNat_of_zero_le hx.1
 obtain rfl := Option.some.inj h
 rw [Int.toNat_natCast]
 by_cases hx0 : x = 0
 ·subst hx0
  exact qn9 w
 ·obtain ⟨hlow, hk⟩ := Lib.lowest_bit 32 x hx0 (by omega)
  obtain ⟨hi, htab⟩ := Lib.deBruijn32_at _ hk
  have hcell := hT _ hi
  rw [htab] at hcell
  exact qn8 x _ _ w (by simp; omega) (qob x _ (by omega) hx0 hlow) hi hk hcell
theorem qbe.ok : ∀ k, qz Tryz.prog qaH 218 (qbe.F k) := by
 intro k
 refine ⟨⟨Tryz.f218, qbr Tryz.f218, Tryz.func218, by kernel_rfl, by kernel_rfl⟩, rfl, rfl, fun M φ w args ls r hgl hc hr => ?_⟩
 have hlf := qa4 hr
 obtain ⟨x, rfl⟩ : ∃ x, ls = [.int .u32 x] := by
  clear hc hr
  obtain ⟨y, rfl⟩ := List.length_eq_one_iff.1 (qbv hlf).1
  simp only [qbe.F, qo, qK, qc, qF, Bool.and_true, List.append_nil] at hlf
  cases y <;> first | (cases hlf; done) | exact ⟨_, by rw [← qG hlf]⟩
 have hr : qbe.f x = some r := hr
 have ha : args = #[.int .u32 x] := by
  have hs := hc.size
  have hs : args.size = 1 := hs
  have h1 := (hc.args 0 args[0] (by simp [hs])).1
  apply Array.ext
  ·simp [hs]
  ·intro i h1' h2'
   have : i = 0 := by simp at h2'; omega
   subst this
   exact h1
 have hT : qkt w := fun j hj => hc.rel.holds 5 j _ (hgl 5 j _ (by unfold qaH; rw [if_pos ⟨rfl, hj⟩]))
 subst ha
 refine (qoc x r w hT hr).mono fun e w' h => ⟨_, h.1, rfl, M, φ, ⟨rfl, qcf _⟩, ?_, ?_, qs.refl φ⟩
 ·rw [h.2]; exact hc.rel
 ·rw [h.2]; exact Stp.refl M φ _ w
end Go.Proofs.YtnkpmjhlkmlmbaaGreatDoor.Eng
namespace Go.Proofs
open Go.Shelf
shelf_lay Lays.n105 Nm 105 at Tryz as Tryz.layRepeat
theorem Tryz.extraRepeat : Builder.Extra Tryz.prog Tryz.layRepeat_ren where
 sizeBuilder := by kernel_rfl
 liesBuilder := by kernel_rfl
 t5 := Tryz.layRepeat.t5
 a5 := Tryz.layRepeat.a5
 z5 := Tryz.layRepeat.z5
 v5 := Tryz.layRepeat.v5
 infoByte := by kernel_rfl
 cellsByte := by kernel_rfl
 sizeByte := by kernel_rfl
 neB5 := by decide
shelf_lay Lays.n106 Nm 106 at Tryz as Tryz.layCompare
shelf_lay Lays7.n27 Nm7 27 at Tryz as Tryz.layTz
shelf_lay Lays.n217 Nm 217 at Tryz as Tryz.layIndexByte
shelf_lay Lays.n172 Nm 172 at Tryz as Tryz.layAtoi
end Go.Proofs
namespace Go.Proofs.YtnkpmjhlkmlmbaaGreatDoor.Eng
open Go.RowKit Go.Proofs
set_option maxRecDepth 100000
theorem qod (s : ByteArray) : qd7 [.str s] := fun k n hm => by cases List.mem_singleton.1 hm
theorem qh6 (n : Int) : qd7 [.int .i64 n] := fun k m hm => by cases List.mem_singleton.1 hm; exact qcf _
theorem qoe {ls : List V} (h : qc [.s, .i .i64] ls = true) : ∃ s c, ls = [.str s, .int .i64 c] := by
 match ls, h with
 | [a, b], h =>
  simp only [qc, Bool.and_true, Bool.and_eq_true] at h
  obtain ⟨h1, h2⟩ := h
  cases a <;> first | (cases h1; done) | skip
  cases b <;> first | (cases h2; done) | skip
  rw [← qG h2]
  exact ⟨_, _, rfl⟩
 | [_], h => simp [qc] at h
 | [], h => cases h
 | _ :: _ :: _ :: _, h => simp [qc] at h
theorem qof {ls : List V} (h : qc [.s, .i .u8] ls = true) : ∃ s c, ls = [.str s, .int .u8 c] := by
 match ls, h with
 | [a, b], h =>
  simp only [qc, Bool.and_true, Bool.and_eq_true] at h
  obtain ⟨h1, h2⟩ := h
  cases a <;> first | (cases h1; done) | skip
  cases b <;> first | (cases h2; done) | skip
  rw [← qG h2]
  exact ⟨_, _, rfl⟩
 | [_], h => simp [qc] at h
 | [], h => cases h
 | _ :: _ :: _ :: _, h => simp [qc] at h
theorem qog {k : IntKind} {ls : List V} (h : qc [.i k] ls = true) : ∃ c, ls = [.int k c] := by
 match ls, h with
 | [a], h =>
  simp only [qc, Bool.and_true] at h
  cases a <;> first | (cases h; done) | skip
  rw [← qG h]
  exact ⟨_, rfl⟩
 | [], h => cases h
 | _ :: _ :: _, h => simp [qc] at h
theorem qoh {ls : List V} (h : qc [.s, .s] ls = true) : ∃ s c, ls = [.str s, .str c] := by
 match ls, h with
 | [a, b], h =>
  simp only [qc, Bool.and_true, Bool.and_eq_true] at h
  obtain ⟨h1, h2⟩ := h
  cases a <;> first | (cases h1; done) | skip
  cases b <;> first | (cases h2; done) | skip
  exact ⟨_, _, rfl⟩
 | [_], h => simp [qc] at h
 | [], h => cases h
 | _ :: _ :: _ :: _, h => simp [qc] at h
theorem qoi {ls : List V} (h : qc [.s] ls = true) : ∃ s, ls = [.str s] := by
 match ls, h with
 | [a], h =>
  simp only [qc, Bool.and_true] at h
  cases a <;> first | (cases h; done) | skip
  exact ⟨_, rfl⟩
 | [], h => cases h
 | _ :: _ :: _, h => simp [qc] at h
theorem qaB.ok : ∀ k, qz Tryz.prog qaH 124 (qaB.F k) := fun k => qz.lib ⟨Tryz.f124, qbr Tryz.f124, Tryz.func124, by kernel_rfl, by kernel_rfl⟩ rfl rfl rfl (fun r => rfl) fun w ls r hw hlf hok hr => by
 obtain ⟨s, c, rfl⟩ := qoe hlf
 have hr : qaB.f s c = some r := hr
 unfold qaB.f at hr
 split at hr
 case isFalse => cases hr
 rename_i h
 obtain rfl := Option.some.inj hr
 refine ⟨qod _, ?_⟩
 have := Any.strings_Repeat Tryz.layRepeat Tryz.extraRepeat s c.toNat w (by omega) h.2.1
 rw [Int.toNat_of_nonneg h.1] at this
 exact this.mono fun e w' ⟨he, hb⟩ => ⟨he, qh5 hb⟩
theorem qcO.ok : ∀ k, qz Tryz.prog qaH 120 (qcO.F k) := fun k => qz.lib ⟨Tryz.f120, qbr Tryz.f120, Tryz.func120, by kernel_rfl, by kernel_rfl⟩ rfl rfl rfl (fun r => rfl) fun w ls r hw hlf hok hr => by
 obtain ⟨s, c, rfl⟩ := qoh hlf
 have hr : qcO.f s c = some r := hr
 obtain rfl := Option.some.inj hr
 refine ⟨qh6 _, ?_⟩
 exact (Any.strings_Compare Tryz.layCompare s c w).mono fun e w' ⟨he, hb⟩ => ⟨he, hb ▸ qu.refl w⟩
theorem qcm.ok : ∀ k, qz Tryz.prog qaH 272 (qcm.F k) := fun k => qz.lib ⟨Tryz.f272, qbr Tryz.f272, Tryz.func272, by kernel_rfl, by kernel_rfl⟩ rfl rfl rfl (fun r => rfl) fun w ls r hw hlf hok hr => by
 obtain ⟨c, rfl⟩ := qog hlf
 have hr : qcm.f c = some r := hr
 unfold qcm.f at hr
 split at hr
 case isFalse => cases hr
 rename_i h
 obtain rfl := Option.some.inj hr
 obtain ⟨x, rfl⟩ := Int.eq_ofNat_of_zero_le h.1
 refine ⟨qh6 _, ?_⟩
 refine (Any7.bits_TrailingZeros Tryz.layTz x (by omega) w fun _ => ?_).mono fun e w' ⟨he, hb⟩ => ⟨he, hb ▸ qu.refl w⟩
 intro j hj
 have hl : Lib.deBruijn64tab.length = 64 := rfl
 rw [Int.toNat_natCast] at *
 exact hw 8 j _ (by unfold qaH; repeat (first | rw [if_pos ⟨rfl, by omega⟩] | rw [if_neg (by omega)]))
theorem qcN.ok : ∀ k, qz Tryz.prog qaH 158 (qcN.F k) := fun k => qz.lib ⟨Tryz.f158, qbr Tryz.f158, Tryz.func158, by kernel_rfl, by kernel_rfl⟩ rfl rfl rfl (fun r => rfl) fun w ls r hw hlf hok hr => by
 obtain ⟨s, c, rfl⟩ := qof hlf
 have hr : qcN.f s c = some r := hr
 obtain rfl := Option.some.inj hr
 refine ⟨qh6 _, ?_⟩
 exact (Any.stringslite_IndexByte Tryz.layIndexByte s c w).mono fun e w' ⟨he, hb⟩ => ⟨he, hb ▸ qu.refl w⟩
theorem qb6.ok : ∀ k, qz Tryz.prog qaH 101 (qb6.F k) := fun k => qz.lib ⟨Tryz.f101, qbr Tryz.f101, Tryz.func101, by kernel_rfl, by kernel_rfl⟩ rfl rfl rfl (fun r => rfl) fun w ls r hw hlf hok hr => by
 obtain ⟨s, rfl⟩ := qoi hlf
 have hr : qb6.f s = some r := hr
 unfold qb6.f at hr
 split at hr
 case isFalse => cases hr
 rename_i h
 have hi : qd7 ((qb6.F 0).S.un r) := by
  intro k n hm
  rcases List.mem_cons.1 hm with hm | hm
  ·cases hm; exact qcf _
  ·cases List.mem_singleton.1 hm
 refine ⟨hi, ?_⟩
 exact (Any.strconv_Atoi Tryz.layAtoi s r h hr w).mono fun e w' ⟨he, hb⟩ => ⟨he, by obtain ⟨t, rfl⟩ := hb; exact qh5 (Lib.bytesWorld_below w _ t)⟩
theorem qoj : TOk Tryz.prog TT := qn2 (by kernel_rfl)
theorem qok : Tryz.prog.follows .mixedOrders = true := by kernel_rfl
abbrev Fo (n : Nat) (S : Sig) (f : Nat → Fn (qo S.ps) (Option S.R)) : Prop := ∀ k, qz Tryz.prog qaH n ⟨S, f k⟩
theorem fo {n : Nat} {ps rs : List Kx} {f : Nat → Fn (qo ps) (Option (sg ps rs).R)} {G : Nat → List (Nat × List Fun)} {fn : Func}
  (nt : Nat) (hf : Tryz.prog.funcs[n]? = some fn) (gs : GP Tryz.prog qaH G) (ds : List (List Bool) := []) (H : Nat → List (qbp (sg ps rs).R) := fun _ => []) (frz : List Nat := [])
  (hname : (fn.name == "runtime.NumGoroutine") = false := by kernel_rfl) (hbody : fn.body = some (qbr fn) := by kernel_rfl) (hnt : nt = fn.ntmps := by kernel_rfl) (hr : rs.all qaG = true := by kernel_rfl)
  (hck : qd4 (qbL (sg ps rs)) (zc ds (H 0)) = true := by kernel_rfl)
  (h0 : qd5 (H 0) := by ((repeat (refine ⟨by ((repeat (intro _)); show _ = _; kernel_rfl), ?_⟩)); trivial))
  (hs : ∀ k, qd6 (mkC TT qaH G nt (zc ds (H 0)) frz k) (sg ps rs) (qbr fn) fn.results.toList (qbq (H k)) (zc ds (H 0)) (H (k + 1)) := by (intro k; (repeat (refine ⟨rfl, by ((repeat (intro _)); show _ = _; kernel_rfl), ?_⟩)); trivial))
  (he : ∀ k, qam (qo ps) (fun ls y => qfM (mkC TT qaH G nt (zc ds (H 0)) frz k) (sg ps rs) (qbr fn) fn.results.toList (qbq (H k)) ls = y) (f k) := by ((repeat (intro _)); show _ = _; kernel_rfl)) : Fo n (sg ps rs) f :=
 qz.mk' qoj qok nt hf gs ds H frz hname hbody hnt hr hck h0 hs he
theorem qdH.ok : Fo 209 (sg [.lf (.i .u8)] [.ag [.i .i64, .i .i64, .i .u64], .lf (.b)]) fun _ => qdH.f := fo 12 Tryz.func209 .z
theorem qU.ok : Fo 157 (sg [.lf (.i .u8), .lf (.is .u64)] [.ag [.i .i64, .i .i64, .i .u64], .lf (.i .i64)]) qU.f := fo 35 Tryz.func157 (.o qdH.ok .z) [[tt, tt, tt, ff, tt, ff]] fun k => [⟨[(4, .bx [.i .i64, .i .i64, .i .u64]), (6, .bx [.i .i64, .i .i64, .i .u64]), (18, .lf (.is .u64)), (19, .lf (.i .i64)), (20, .lf (.i .i64))], qU.l0 k⟩]
theorem qbx.ok : Fo 99 (sg [.ag [.i .i64, .i .i64, .i .u64]] [.lf (.i .u64)]) fun _ => qbx.f := fo 9 Tryz.func99 .z
theorem qc0.ok : Fo 181 (sg [.ag [.i .i64, .i .i64, .i .u64], .lf (.i .u64)] [.lf (.i .u8)]) fun _ => qc0.f := fo 29 Tryz.func181 (.o qbx.ok .z)
theorem qcn.ok : Fo 117 (sg [.lf (.i .u8), .lf (.i .u64)] [.lf (.i .u8), .lf (.i .i64)]) qcn.f := fo 21 Tryz.func117 (.o qU.ok (.o qc0.ok .z))
theorem qc1.ok : Fo 182 (sg [.ag [.i .i64, .i .i64, .i .u64], .lf (.i .u64)] [.ag [.b, .i .i64, .i .u64]]) fun _ => qc1.f := fo 27 Tryz.func182 .z
theorem qd8.ok : Fo 118 (sg [.lf (.i .u8), .lf (.i .u64)] [.ag [.b, .i .i64, .i .u64], .lf (.i .i64)]) qd8.f := fo 22 Tryz.func118 (.o qU.ok (.o qc1.ok .z))
theorem qaC.ok : Fo 57 (sg [.lf (.i .u8), .lf (.i .u64)] [.lf (.s), .lf (.b), .lf (.i .i64)]) qaC.f := fo 39 Tryz.func57 (.o qcn.ok (.o qd8.ok .z)) [[tt, tt, tt, tt, tt, tt]] fun k => [⟨[(9, .bx [.b, .i .i64, .i .u64]), (11, .lf (.s))], qaC.j1 k⟩]
theorem qd9.ok : Fo 198 (sg [.lf (.i .u8), .lf (.i .u64)] [.ag [.i .i64, .i .i64, .i .u64], .lf (.i .i64)]) qd9.f := fo 25 Tryz.func198 (.o qU.ok (.o qc0.ok .z))
theorem qv.ok : Fo 219 (sg [.ow .u32] [.ow .u32]) qv.f := fo 21 Tryz.func219 .z [[tt, ff, ff]] fun k => [⟨[(0, .ow .u32)], qv.l0 k⟩]
theorem qv.ok1 : Fo 219 (sg [.lf (.is .u32)] [.lf (.is .u32)]) qv.f := fo 21 Tryz.func219 .z [[tt, ff, ff]] fun k => [⟨[(0, .lf (.is .u32))], qv.l0 k⟩]
theorem qby.ok : Fo 166 (sg [.lf (.i .u64)] [.lf (.is .u32)]) qby.f := fo 10 Tryz.func166 (.t qv.ok qv.ok1 .z)
theorem qbN.ok : Fo 199 (sg [.ag [.i .i64, .i .i64, .i .u64]] [.lf (.i .i64)]) fun _ => qbN.f := fo 10 Tryz.func199 .z
theorem qan.ok : Fo 164 (sg [.lf (.is .u32)] [.lf (.b)]) fun _ => qan.f := fo 20 Tryz.func164 .z
theorem qa5.ok : Fo 165 (sg [.lf (.is .u32)] [.lf (.i .i64)]) qa5.f := fo 23 Tryz.func165 (.o qan.ok (.o qbe.ok .z)) [[tt, tt, ff, tt, ff]] fun k => [⟨[(8, .lf (.is .u32)), (9, .lf (.i .i64)), (10, .lf (.i .i64))], qa5.l0 k⟩]
theorem qaT.ok : Fo 200 (sg [.lf (.is .u32), .lf (.i .i64)] [.lf (.is .u32)]) qaT.f := fo 60 Tryz.func200 (.t qv.ok qv.ok1 .z) [[tt, tt, tt, tt, tt, ff, tt, ff]] fun k => [⟨[(0, .lf (.is .u32)), (5, .lf (.i .i64)), (6, .ow .u32), (23, .lf (.is .u32)), (24, .lf (.i .i64)), (25, .lf (.i .i64))], qaT.l0 k⟩]
theorem qao.ok : Fo 220 (sg [.lf (.i .u32)] [.lf (.i .i64)]) qao.f := fo 19 Tryz.func220 .z [[tt, tt], [tt, tt, tt]] fun k => [⟨[(0, .lf (.i .u32)), (2, .lf (.i .i64))], qao.j0 k⟩, ⟨[(0, .lf (.i .u32)), (2, .lf (.i .i64))], qao.j1 k⟩]
theorem qaI.ok : Fo 201 (sg [.lf (.is .u32)] [.lf (.i .i64)]) qaI.f := fo 23 Tryz.func201 (.o qan.ok (.o qao.ok .z))
theorem qaU.ok : Fo 202 (sg [.lf (.is .u32), .lf (.i .i64)] [.ow .u32]) qaU.f := fo 50 Tryz.func202 (.t qv.ok qv.ok1 .z) [[tt, tt, tt, tt, ff, tt, ff]] fun k => [⟨[(5, .ow .u32), (6, .lf (.i .i64)), (7, .lf (.i .u32)), (24, .lf (.is .u32)), (25, .lf (.i .i64)), (26, .lf (.i .i64))], qaU.l0 k⟩]
theorem qaJ.ok : Fo 146 (sg [.lf (.is .u32), .lf (.i .i64)] [.lf (.is .u32), .lf (.b), .lf (.i .i64)]) qaJ.f := fo 39 Tryz.func146 (.o qan.ok (.o qa5.ok (.o qaT.ok (.o qaI.ok (.o qaU.ok .z)))))
theorem qaV.ok : Fo 107 (sg [.lf (.b), .lf (.is .u32), .lf (.i .i64)] [.ag [.b, .is .u32, .i .i64], .lf (.i .i64)]) qaV.f := fo 47 Tryz.func107 (.o qaJ.ok (.o qan.ok (.o qa5.ok .z)))
theorem qbz.ok : Fo 145 (sg [.lf (.i .u8), .lf (.i .u64)] [.ag [.b, .is .u32, .i .i64], .lf (.i .i64)]) qbz.f := fo 47 Tryz.func145 (.o qaV.ok (.o qby.ok (.o qc1.ok (.o qd9.ok (.o qbN.ok .z))))) [[tt, tt, tt, tt, tt]] fun k => [⟨[(4, .bx [.b, .is .u32, .i .i64]), (6, .bx [.i .i64, .i .i64, .i .u64]), (8, .bx [.b, .i .i64, .i .u64])], qbz.j1 k⟩]
theorem qea.ok : Fo 240 (sg [.lf (.i .u32), .lf (.i .u32), .lf (.i .u32)] [.lf (.i .u32), .lf (.i .u32)]) fun _ => qea.f := fo 33 Tryz.func240 .z
theorem qa6.ok : Fo 203 (sg [.lf (.is .u32), .lf (.i .u32)] [.lf (.is .u32), .lf (.i .u32)]) qa6.f := fo 35 Tryz.func203 (.t qv.ok qv.ok1 (.o qea.ok .z)) [[tt, tt, tt, ff, tt, ff]] fun k => [⟨[(0, .lf (.is .u32)), (1, .lf (.i .u32)), (6, .ow .u32), (7, .lf (.i .u32)), (8, .lf (.i .i64))], qa6.l0 k⟩]
theorem qD.ok : Fo 147 (sg [.lf (.is .u32)] [.lf (.s), .lf (.i .i64)]) qD.f := fo 76 Tryz.func147 (.o qan.ok (.o qa6.ok .z)) [[tt, tt, tt, tt, ff, ff], [tt, tt, tt, tt, ff, ff, ff, tt, ff, tt, tt, tt, ff], [tt, tt, tt, tt, tt, ff, ff], [tt, tt, tt, tt, tt, tt, ff, tt, ff]] fun k => [⟨[(0, .lf (.is .u32)), (4, .ow .u8)], qD.l0 k⟩, ⟨[(0, .lf (.is .u32)), (4, .ow .u8), (6, .lf (.i .u32)), (7, .lf (.i .i64))], qD.l1 k⟩, ⟨[(4, .ow .u8)], qD.l2 k⟩, ⟨[(4, .ow .u8), (8, .lf (.i .i64)), (9, .lf (.i .i64))], qD.l3 k⟩]
theorem qO.ok : Fo 221 (sg [.lf (.i .u64)] [.lf (.i .i64)]) qO.f := fo 25 Tryz.func221 .z [[tt, tt], [tt, tt, tt], [tt, tt, tt, tt]] fun k => [⟨[(0, .lf (.i .u64)), (2, .lf (.i .i64))], qO.j0 k⟩, ⟨[(0, .lf (.i .u64)), (2, .lf (.i .i64))], qO.j1 k⟩, ⟨[(0, .lf (.i .u64)), (2, .lf (.i .i64))], qO.j2 k⟩]
theorem qeb.ok : Fo 167 (sg [.lf (.i .u64)] [.lf (.i .i64)]) qeb.f := fo 8 Tryz.func167 (.o qO.ok .z)
theorem qX.ok : Fo 168 (sg [.lf (.is .u32), .lf (.is .u32)] [.lf (.is .u32)]) qX.f := fo 68 Tryz.func168 (.t qv.ok qv.ok1 .z) [[tt, tt, ff, tt, ff], [tt, tt, ff, tt, ff, ff, tt, tt, ff, ff, tt, tt, ff, tt, ff]] fun k => [⟨[(1, .lf (.is .u32)), (5, .ow .u32), (18, .lf (.is .u32)), (19, .lf (.i .i64)), (20, .lf (.i .i64))], qX.l0 k⟩, ⟨[(1, .lf (.is .u32)), (5, .ow .u32), (6, .lf (.i .i64)), (7, .lf (.i .u32)), (8, .lf (.i .u64)), (18, .lf (.is .u32)), (19, .lf (.i .i64)), (20, .lf (.i .i64)), (25, .lf (.is .u32)), (26, .lf (.i .i64)), (27, .lf (.i .i64))], qX.l1 k⟩]
theorem qP.ok : Fo 108 (sg [.lf (.i .u32), .lf (.i .i64)] [.lf (.is .u32), .lf (.i .i64)]) qP.f := fo 55 Tryz.func108 (.o qby.ok (.o qeb.ok (.o qX.ok .z))) [[tt, tt, tt, ff, tt, ff], [tt, ff, ff, tt, tt, tt], [tt, tt, tt, ff, tt, ff, ff, tt, ff, ff, tt, tt, tt]] fun k => [⟨[(0, .lf (.i .u32)), (1, .lf (.i .i64)), (6, .lf (.is .u32)), (7, .lf (.i .i64))], qP.l0 k⟩, ⟨[(0, .lf (.i .u32)), (1, .lf (.i .i64)), (11, .lf (.b))], qP.j0 k⟩, ⟨[(0, .lf (.i .u32)), (1, .lf (.i .i64)), (6, .lf (.is .u32)), (7, .lf (.i .i64))], qP.j4 k⟩]
theorem qai.ok : Fo 204 (sg [.lf (.rw [.is .u32])] [.lf (.b)]) qai.f := fo 15 Tryz.func204 (.o qan.ok .z) [[tt, ff, tt, ff]] fun k => [⟨[(5, .lf (.rw [.is .u32])), (6, .lf (.i .i64)), (7, .lf (.i .i64))], qai.l0 k⟩]
theorem qa7.ok : Fo 205 (sg [.ow .u32] [.ow .u32, .lf (.i .i64)]) fun _ => qa7.f := fo 8 Tryz.func205 .z
theorem qa7.ok1 : Fo 205 (sg [.lf (.is .u32)] [.lf (.is .u32), .lf (.i .i64)]) fun _ => qa7.f := fo 8 Tryz.func205 .z
theorem qc2.ok : Fo 148 (sg [.lf (.is .u32), .lf (.is .u32)] [.lf (.is .u32), .lf (.i .i64)]) qc2.f := fo 34 Tryz.func148 (.o qX.ok (.o qai.ok (.t qa7.ok qa7.ok1 .z)))
theorem qbf.ok : Fo 85 (sg [.lf (.i .u8), .lf (.i .u64)] [.lf (.b), .lf (.s), .lf (.s)]) qbf.f := fo 93 Tryz.func85 (.o qP.ok (.o qaB.ok (.o qbz.ok (.o qaJ.ok (.o qD.ok (.o qc2.ok .z)))))) [[tt, tt, tt, tt, tt, tt, tt]] fun k => [⟨[(7, .bx [.b, .is .u32, .i .i64]), (18, .lf (.s))], qbf.j1 k⟩]
theorem q6.ok : Fo 27 (sg [.lf (.i .u8), .lf (.i .u64)] [.lf (.s), .lf (.i .i64)]) q6.f := fo 45 Tryz.func27 (.o qaC.ok (.o qbf.ok .z)) [[tt, ff, tt, tt], [tt, tt, tt, tt, tt]] fun k => [⟨[(0, .lf (.i .u8)), (1, .lf (.i .u64)), (6, .lf (.s)), (8, .lf (.i .i64)), (24, .lf (.b))], q6.j0 k⟩, ⟨[(9, .lf (.b)), (12, .lf (.s))], q6.j2 k⟩]
theorem qc3.ok : Fo 50 (sg [.lf (.i .u8)] [.lf (.b)]) fun _ => qc3.f := fo 9 Tryz.func50 .z
theorem qec.ok : Fo 51 (sg [.lf (.i .u8)] [.lf (.b)]) fun _ => qec.f := fo 9 Tryz.func51 .z
theorem qed.ok : Fo 52 (sg [.lf (.i .u8), .lf (.i .u64)] [.lf (.i .i64)]) fun _ => qed.f := fo 14 Tryz.func52 (.o qc3.ok .z)
theorem qbg.ok : Fo 15 (sg [.lf (.i .u8), .lf (.i .u8), .lf (.is .u64)] [.lf (.i .i64)]) qbg.f := fo 27 Tryz.func15 (.o qc3.ok (.o qec.ok (.o qed.ok .z))) [[tt, tt, tt, ff, tt, ff]] fun k => [⟨[(0, .lf (.i .u8)), (2, .lf (.is .u64)), (7, .lf (.i .i64))], qbg.l0 k⟩]
theorem qc4.ok : Fo 183 (sg [.lf (.s), .lf (.i .u8)] [.lf (.s)]) qc4.f := fo 23 Tryz.func183 .z [[tt, ff, ff]] fun k => [⟨[(0, .lf (.s)), (1, .lf (.i .u8))], qc4.l0 k⟩]
theorem qco.ok : Fo 119 (sg [.lf (.s), .lf (.s)] [.lf (.s)]) qco.f := fo 37 Tryz.func119 (.o qc4.ok .z) [[tt, tt, ff, tt]] fun k => [⟨[(0, .lf (.s)), (1, .lf (.s)), (21, .lf (.b))], qco.j2 k⟩]
theorem qc5.ok : Fo 58 (sg [.lf (.i .u8), .lf (.i .u64)] [.ag [.b, .s, .i .i64]]) qc5.f := fo 35 Tryz.func58 (.o qbf.ok (.o qco.ok .z)) [[tt, tt, tt, tt, ff, ff]] fun k => [⟨[(4, .bx [.b, .s, .i .i64]), (5, .lf (.b)), (8, .lf (.i .i64)), (9, .lf (.s))], qc5.l0 k⟩]
theorem qgo.ok : Fo 61 (sg [.ag [.b, .s, .i .i64], .lf (.i .i64)] [.ag [.b, .s, .i .i64]]) qgo.f := fo 15 Tryz.func61 (.o qco.ok .z)
theorem qc6.ok : Fo 62 (sg [.ag [.b, .s, .i .i64], .lf (.i .i64)] [.ag [.b, .s, .i .i64]]) qc6.f := fo 45 Tryz.func62 .z [[tt, tt, ff, tt, ff]] fun k => [⟨[(2, .bx [.b, .s, .i .i64]), (4, .bx [.b, .s, .i .i64]), (5, .ow .u8), (6, .lf (.i .i64))], qc6.l0 k⟩]
theorem qM.ok : Fo 48 (sg [.lf (.s)] [.lf (.is .u32), .lf (.i .i64)]) qM.f := fo 107 Tryz.func48 .z [[tt, tt, ff, tt, ff], [tt, tt, tt, tt, ff, tt, ff], [tt, tt, tt, tt, ff, tt, ff, ff, tt, ff, tt, tt, tt, ff, ff], [tt, tt, tt, tt, ff, tt, ff, ff, tt, ff, tt, tt, tt, tt, ff, tt, ff], [tt, tt, tt, tt, ff, tt, ff, ff, tt, ff, tt, tt], [tt, tt, tt, tt, ff, tt, ff, ff, tt, ff, tt, tt, tt, tt, tt, tt]] fun k => [⟨[(0, .lf (.s)), (25, .lf (.i .i64)), (26, .lf (.i .i64))], qM.l0 k⟩, ⟨[(0, .lf (.s)), (5, .ow .u32), (6, .lf (.i .i64))], qM.l1 k⟩, ⟨[(0, .lf (.s)), (5, .ow .u32), (6, .lf (.i .i64)), (7, .lf (.i .i64)), (8, .lf (.i .u64)), (9, .lf (.i .u64))], qM.l2 k⟩, ⟨[(0, .lf (.s)), (5, .ow .u32), (6, .lf (.i .i64)), (8, .lf (.i .u64)), (9, .lf (.i .u64)), (75, .al 5), (76, .lf (.i .i64)), (77, .lf (.i .i64))], qM.l3 k⟩, ⟨[(0, .lf (.s)), (5, .ow .u32), (6, .lf (.i .i64)), (7, .lf (.i .i64))], qM.j7 k⟩, ⟨[(0, .lf (.s)), (5, .ow .u32), (6, .lf (.i .i64))], qM.j10 k⟩]
theorem qgp.ok : Fo 208 (sg [.lf (.i .i64)] [.lf (.b)]) fun _ => qgp.f := fo 9 Tryz.func208 .z
theorem qcp.ok : Fo 155 (sg [.ag [.b, .is .u32, .i .i64]] [.lf (.b)]) fun _ => qcp.f := fo 30 Tryz.func155 (.o qan.ok (.o qgp.ok .z))
theorem qcq.ok : Fo 169 (sg [.lf (.rw [.b, .is .u32, .i .i64])] [.lf (.b)]) qcq.f := fo 15 Tryz.func169 (.o qcp.ok .z) [[tt, ff, tt, ff]] fun k => [⟨[(5, .lf (.rw [.b, .is .u32, .i .i64])), (6, .lf (.i .i64)), (7, .lf (.i .i64))], qcq.l0 k⟩]
theorem qgq.ok : Fo 109 (sg [.ag [.b, .is .u32, .i .i64], .ag [.b, .is .u32, .i .i64]] [.ag [.b, .is .u32, .i .i64], .lf (.i .i64)]) qgq.f := fo 40 Tryz.func109 (.o qaV.ok (.o qc2.ok (.o qcq.ok .z)))
theorem qgr.ok : Fo 154 (sg [.lf (.i .u8)] [.ag [.i .i64, .i .i64, .i .i64], .lf (.b)]) fun _ => qgr.f := fo 12 Tryz.func154 .z
theorem qbO.ok : Fo 94 (sg [.lf (.i .u8), .lf (.i .u8), .lf (.rw [.b, .is .u32, .i .i64])] [.ag [.i .i64, .i .i64, .i .i64], .lf (.i .i64)]) qbO.f := fo 39 Tryz.func94 (.o qgr.ok (.o qcp.ok .z)) [[tt, tt, tt, tt, ff, tt, ff]] fun k => [⟨[(6, .bx [.i .i64, .i .i64, .i .i64]), (8, .bx [.i .i64, .i .i64, .i .i64]), (27, .lf (.rw [.b, .is .u32, .i .i64])), (28, .lf (.i .i64)), (29, .lf (.i .i64))], qbO.l0 k⟩]
theorem qb7.ok : Fo 170 (sg [.ag [.b, .is .u32, .i .i64]] [.lf (.i .i64)]) qb7.f := fo 16 Tryz.func170 (.o qcp.ok .z) [[tt, ff, ff, tt]] fun k => [⟨[(1, .bx [.b, .is .u32, .i .i64]), (3, .lf (.b))], qb7.j0 k⟩]
theorem qcr.ok : Fo 222 (sg [.lf (.is .u32)] [.lf (.i .u64), .lf (.b)]) qcr.f := fo 31 Tryz.func222 (.o qan.ok .z) [[tt, tt, tt, ff, tt, ff]] fun k => [⟨[(4, .lf (.i .u64)), (15, .lf (.is .u32)), (16, .lf (.i .i64)), (17, .lf (.i .i64))], qcr.l0 k⟩]
theorem qee.ok : Fo 171 (sg [.ag [.b, .is .u32, .i .i64]] [.ag [.i .u64, .i .i64, .b]]) qee.f := fo 33 Tryz.func171 (.o qaJ.ok (.o qaI.ok (.o qcr.ok .z)))
theorem qe2.ok : Fo 250 (sg [.lf (.i .u8), .lf (.b), .lf (.b), .lf (.b), .lf (.b)] [.lf (.b)]) fun _ => qe2.f := fo 42 Tryz.func250 .z
theorem qe3.ok : Fo 249 (sg [.lf (.b)] [.lf (.i .u64)]) fun _ => qe3.f := fo 4 Tryz.func249 .z
theorem qbh.ok : Fo 223 (sg [.ag [.i .u64, .i .i64, .b], .lf (.i .u8), .lf (.b), .lf (.i .i64)] [.lf (.i .u64), .lf (.b)]) qbh.f := fo 70 Tryz.func223 (.o qe3.ok (.o qe2.ok .z)) [[tt, tt, tt, tt, tt], [tt, tt, tt, tt, tt, tt]] fun k => [⟨[(1, .lf (.i .u8)), (2, .lf (.b)), (4, .bx [.i .u64, .i .i64, .b]), (10, .lf (.i .i64)), (11, .lf (.i .u64)), (12, .lf (.b)), (13, .lf (.b))], qbh.j1 k⟩, ⟨[(1, .lf (.i .u8)), (2, .lf (.b)), (11, .lf (.i .u64)), (12, .lf (.b)), (13, .lf (.b))], qbh.j2 k⟩]
theorem qgs.ok : Fo 156 (sg [.ag [.i .i64, .i .i64, .i .u64]] [.lf (.i .u64)]) fun _ => qgs.f := fo 6 Tryz.func156 (.o qbx.ok .z)
theorem qgt.ok : Fo 96 (sg [.lf (.i .u8), .lf (.b), .lf (.fn 156)] [.lf (.i .u64), .lf (.i .i64)]) qgt.f := fo 28 Tryz.func96 (.o qgs.ok (.o qU.ok .z))
theorem qgu.ok : Fo 95 (sg [.lf (.i .u8), .lf (.b)] [.lf (.i .u64), .lf (.i .i64)]) qgu.f := fo 11 Tryz.func95 (.o qgt.ok .z)
theorem qgv.ok : Fo 96 (sg [.lf (.i .u8), .lf (.b), .lf (.fn 99)] [.lf (.i .u64), .lf (.i .i64)]) qgv.f := fo 28 Tryz.func96 (.o qbx.ok (.o qU.ok .z))
theorem qef.ok : Fo 44 (sg [.lf (.i .u8), .lf (.b)] [.lf (.i .u64), .lf (.i .i64)]) qef.f := fo 11 Tryz.func44 (.o qgv.ok .z)
theorem qbi.ok : Fo 41 (sg [.lf (.i .u8), .lf (.i .u8), .lf (.b)] [.lf (.i .u64), .lf (.i .i64)]) qbi.f := fo 46 Tryz.func41 (.o qef.ok (.o qbO.ok (.o qgu.ok .z))) [[tt, tt, ff, tt]] fun k => [⟨[(0, .lf (.i .u8)), (2, .lf (.b)), (35, .lf (.b))], qbi.j1 k⟩]
theorem qe4.ok : Fo 251 (sg [.ag [.i .i64, .i .i64, .i .u64], .ag [.b, .i .i64, .i .u64]] [.lf (.i .u64)]) fun _ => qe4.f := fo 22 Tryz.func251 .z
theorem qgw.ok : Fo 224 (sg [.lf (.i .u8), .ag [.b, .is .u32, .i .i64]] [.lf (.i .u64), .lf (.i .i64)]) qgw.f := fo 95 Tryz.func224 (.o qcp.ok (.o qU.ok (.o qbN.ok (.o qO.ok (.o qcr.ok (.o qe4.ok .z))))))
theorem qgx.ok : Fo 106 (sg [.ag [.i .i64, .i .i64, .i .u64]] [.lf (.i .u64)]) fun _ => qgx.f := fo 3 Tryz.func106 .z
theorem qgy.ok : Fo 96 (sg [.lf (.i .u8), .lf (.b), .lf (.fn 106)] [.lf (.i .u64), .lf (.i .i64)]) qgy.f := fo 28 Tryz.func96 (.o qgx.ok (.o qU.ok .z))
theorem qeg.ok : Fo 47 (sg [.lf (.i .u8), .lf (.b)] [.lf (.i .u64), .lf (.i .i64)]) qeg.f := fo 11 Tryz.func47 (.o qgy.ok .z)
theorem qcs.ok : Fo 172 (sg [.ag [.i .u64, .i .i64, .b], .lf (.i .u8), .ag [.i .i64, .i .i64, .i .i64], .lf (.i .u8), .lf (.b)] [.lf (.i .u64), .lf (.i .u8)]) qcs.f := fo 106 Tryz.func172 (.o qbi.ok (.o qeg.ok (.o qaV.ok (.o qby.ok (.o qO.ok (.o qbh.ok (.o qgw.ok .z))))))) [[tt, tt, tt, tt, tt, tt, tt]] fun k => [⟨[(3, .lf (.i .u8)), (4, .lf (.b)), (5, .bx [.i .u64, .i .i64, .b]), (7, .bx [.i .i64, .i .i64, .i .i64]), (14, .lf (.b)), (19, .lf (.i .u64))], qcs.j1 k⟩]
theorem qgz.ok : Fo 110 (sg [.lf (.i .u8), .lf (.i .u8), .ag [.b, .is .u32, .i .i64]] [.lf (.i .u64), .lf (.i .u8), .lf (.i .i64)]) qgz.f := fo 40 Tryz.func110 (.o qbO.ok (.o qb7.ok (.o qee.ok (.o qcs.ok .z))))
theorem qgA.ok : Fo 225 (sg [.lf (.i .i64)] [.lf (.i .i64)]) fun _ => qgA.f := fo 9 Tryz.func225 .z
theorem qbP.ok : Fo 255 (sg [.lf (.is .u32), .lf (.is .u32)] [.lf (.i .i64)]) qbP.f := fo 43 Tryz.func255 .z [[tt, tt, ff, tt, ff]] fun k => [⟨[(0, .lf (.is .u32)), (1, .lf (.is .u32)), (5, .lf (.i .i64))], qbP.l0 k⟩]
theorem qgB.ok : Fo 267 (sg [.lf (.i .u32)] [.lf (.i .i64)]) qgB.f := fo 6 Tryz.func267 (.o qao.ok .z)
theorem qdI.ok : Fo 273 (sg [.lf (.i .u32), .lf (.i .u32), .lf (.i .u32)] [.lf (.i .u32), .lf (.i .u32)]) fun _ => qdI.f := fo 25 Tryz.func273 .z
theorem qeh.ok : Fo 266 (sg [.lf (.i .u32), .lf (.i .u32), .lf (.i .u32)] [.lf (.i .u32), .lf (.i .u32)]) fun _ => qeh.f := fo 22 Tryz.func266 .z
theorem qas.ok : Fo 268 (sg [.bo .u32, .lf (.is .u32)] [.lf (.i .u32)]) qas.f := fo 160 Tryz.func268 (.o qeh.ok (.o qdI.ok .z)) [[tt, tt, tt, tt, ff, ff], [tt, tt, tt, tt, tt, tt, ff, tt, ff], [tt, tt, tt, tt, tt, tt, tt, tt, tt, tt, ff, tt, ff]] fun k => [⟨[(0, .bo .u32), (1, .lf (.is .u32)), (5, .lf (.i .i64)), (7, .lf (.i .u64)), (8, .lf (.i .u64))], qas.l0 k⟩, ⟨[(0, .bo .u32), (1, .lf (.is .u32)), (5, .lf (.i .i64)), (7, .lf (.i .u64)), (9, .lf (.i .u32)), (10, .lf (.i .u64)), (81, .lf (.is .u32)), (82, .lf (.i .i64)), (83, .lf (.i .i64))], qas.l1 k⟩, ⟨[(0, .bo .u32), (5, .lf (.i .i64)), (7, .lf (.i .u64)), (13, .lf (.i .u32)), (129, .lf (.is .u32)), (130, .lf (.i .i64)), (131, .lf (.i .i64))], qas.l2 k⟩]
theorem qbQ.ok : Fo 256 (sg [.lf (.is .u32), .lf (.is .u32)] [.lf (.is .u32), .lf (.is .u32)]) qbQ.f := fo 68 Tryz.func256 (.o qaT.ok (.o qaU.ok (.t qv.ok qv.ok1 (.o qgB.ok (.o qas.ok .z))))) [[tt, tt, tt, tt, ff, ff], [tt, tt, tt, tt, tt, tt, tt, ff, tt, ff]] fun k => [⟨[(0, .lf (.is .u32)), (6, .lf (.i .i64)), (7, .ow .u32), (8, .ow .u32)], qbQ.l0 k⟩, ⟨[(6, .lf (.i .i64)), (7, .ow .u32), (8, .ow .u32), (9, .lf (.i .i64)), (10, .ow .u32), (11, .lf (.i .i64))], qbQ.l1 k⟩]
theorem qei.ok : Fo 227 (sg [.lf (.is .u32), .lf (.is .u32)] [.lf (.is .u32), .lf (.is .u32), .lf (.i .i64)]) qei.f := fo 49 Tryz.func227 (.o qa6.ok (.o qai.ok (.t qv.ok qv.ok1 (.o qbP.ok (.o qbQ.ok .z)))))
theorem qbR.ok : Fo 265 (sg [.lf (.is .u32), .lf (.is .u32)] [.lf (.is .u32)]) qbR.f := fo 41 Tryz.func265 (.t qv.ok qv.ok1 (.o qdI.ok .z)) [[tt, tt, tt, ff, tt, ff], [tt, tt, tt, ff, tt, ff, ff, tt, tt, ff, ff, tt, tt, tt]] fun k => [⟨[(0, .lf (.is .u32)), (1, .lf (.is .u32)), (5, .ow .u32), (6, .lf (.i .u32)), (13, .lf (.i .i64)), (14, .lf (.i .i64))], qbR.l0 k⟩, ⟨[(0, .lf (.is .u32)), (1, .lf (.is .u32)), (5, .ow .u32), (6, .lf (.i .u32)), (7, .lf (.i .i64)), (8, .lf (.i .u32)), (13, .lf (.i .i64)), (14, .lf (.i .i64))], qbR.j1 k⟩]
theorem qe5.ok : Fo 252 (sg [.lf (.is .u32), .lf (.is .u32)] [.lf (.is .u32), .lf (.i .i64)]) qe5.f := fo 18 Tryz.func252 (.o qai.ok (.o qbP.ok (.o qbR.ok .z)))
theorem qgC.ok : Fo 253 (sg [.lf (.is .u32), .lf (.is .u32)] [.lf (.i .i64), .lf (.i .i64)]) qgC.f := fo 14 Tryz.func253 (.o qai.ok (.o qbP.ok .z))
theorem qaK.ok : Fo 254 (sg [.lf (.is .u32), .lf (.is .u32)] [.lf (.is .u32), .lf (.i .i64)]) qaK.f := fo 63 Tryz.func254 (.o qai.ok (.t qa7.ok qa7.ok1 (.t qv.ok qv.ok1 (.o qeh.ok .z)))) [[tt, tt, tt, tt, tt, ff, tt, ff], [tt, tt, tt], [tt, tt, tt, tt, tt, ff, tt, ff, ff, tt, tt, ff, ff, tt, tt, tt]] fun k => [⟨[(0, .lf (.is .u32)), (1, .lf (.is .u32)), (6, .ow .u32), (7, .lf (.i .u32)), (27, .lf (.i .i64)), (28, .lf (.i .i64))], qaK.l0 k⟩, ⟨[(0, .lf (.is .u32)), (1, .lf (.is .u32))], qaK.j1 k⟩, ⟨[(0, .lf (.is .u32)), (1, .lf (.is .u32)), (6, .ow .u32), (7, .lf (.i .u32)), (8, .lf (.i .i64)), (9, .lf (.i .u32)), (27, .lf (.i .i64)), (28, .lf (.i .i64))], qaK.j3 k⟩]
theorem qdJ.ok : Fo 228 (sg [.lf (.b), .lf (.is .u32), .lf (.i .i64), .lf (.b), .lf (.i .i64)] [.ag [.b, .is .u32, .i .i64], .lf (.b), .lf (.i .i64)]) qdJ.f := fo 49 Tryz.func228 (.o qaV.ok (.o qaJ.ok (.o qaI.ok .z)))
theorem qaW.ok : Fo 226 (sg [.ag [.b, .is .u32, .i .i64], .ag [.b, .is .u32, .i .i64], .lf (.i .i64)] [.ag [.b, .is .u32, .i .i64], .lf (.b), .lf (.i .i64)]) qaW.f := fo 119 Tryz.func226 (.o qaJ.ok (.o qby.ok (.o qaI.ok (.o qei.ok (.o qdJ.ok (.o qe5.ok (.o qgC.ok (.o qaK.ok .z)))))))) [[tt, tt, tt, tt, tt, ff, ff], [tt, tt, tt, tt, tt, ff, ff, ff, tt, ff, tt, tt, ff, tt, tt], [tt, tt, tt, tt, tt, ff, ff, ff, tt, ff, tt, tt, tt]] fun k => [⟨[(2, .lf (.i .i64)), (3, .bx [.b, .is .u32, .i .i64]), (4, .bx [.b, .is .u32, .i .i64]), (6, .bx [.b, .is .u32, .i .i64]), (13, .lf (.is .u32)), (14, .lf (.is .u32)), (16, .lf (.i .i64))], qaW.l0 k⟩, ⟨[(2, .lf (.i .i64)), (3, .bx [.b, .is .u32, .i .i64]), (4, .bx [.b, .is .u32, .i .i64]), (6, .bx [.b, .is .u32, .i .i64]), (13, .lf (.is .u32)), (14, .lf (.is .u32)), (16, .lf (.i .i64)), (17, .lf (.is .u32)), (19, .lf (.i .u64)), (76, .lf (.b))], qaW.j2 k⟩, ⟨[(2, .lf (.i .i64)), (3, .bx [.b, .is .u32, .i .i64]), (4, .bx [.b, .is .u32, .i .i64]), (6, .bx [.b, .is .u32, .i .i64]), (13, .lf (.is .u32)), (14, .lf (.is .u32)), (16, .lf (.i .i64)), (19, .lf (.i .u64))], qaW.j3 k⟩]
theorem qc7.ok : Fo 173 (sg [.ag [.b, .is .u32, .i .i64], .ag [.b, .is .u32, .i .i64], .lf (.i .i64)] [.ag [.b, .is .u32, .i .i64], .lf (.b), .lf (.i .i64)]) qc7.f := fo 106 Tryz.func173 (.o qaJ.ok (.o qcq.ok (.o qaI.ok (.o qgA.ok (.o qaW.ok (.o qei.ok (.o qdJ.ok .z))))))) [[tt, ff, tt]] fun k => [⟨[(2, .lf (.i .i64)), (3, .bx [.b, .is .u32, .i .i64]), (4, .bx [.b, .is .u32, .i .i64]), (6, .bx [.b, .is .u32, .i .i64]), (24, .lf (.b))], qc7.j0 k⟩]
theorem qc8.ok : Fo 111 (sg [.lf (.i .u8), .lf (.i .u8), .ag [.b, .is .u32, .i .i64], .ag [.b, .is .u32, .i .i64]] [.lf (.i .u64), .lf (.i .u8), .lf (.i .i64)]) qc8.f := fo 85 Tryz.func111 (.o qbO.ok (.o qb7.ok (.o qee.ok (.o qcs.ok (.o qc7.ok .z))))) [[tt, tt, tt, tt, tt, tt, tt]] fun k => [⟨[(0, .lf (.i .u8)), (1, .lf (.i .u8)), (6, .bx [.b, .is .u32, .i .i64]), (7, .bx [.b, .is .u32, .i .i64]), (11, .bx [.i .i64, .i .i64, .i .i64]), (13, .lf (.b)), (17, .bx [.i .u64, .i .i64, .b])], qc8.j1 k⟩]
theorem qej.ok : Fo 49 (sg [.lf (.i .u8), .lf (.i .u8), .lf (.b), .lf (.is .u32), .lf (.i .i64)] [.lf (.i .u64), .lf (.i .u8), .lf (.i .i64)]) qej.f := fo 77 Tryz.func49 (.o qaV.ok (.o qP.ok (.o qgq.ok (.o qgz.ok (.o qc8.ok .z)))))
theorem qgD.ok : Fo 60 (sg [.ag [.b, .s, .i .i64], .lf (.i .u8), .lf (.i .u8)] [.lf (.i .u64), .lf (.i .u8), .lf (.i .i64)]) qgD.f := fo 33 Tryz.func60 (.o qM.ok (.o qej.ok .z))
theorem qe6.ok : Fo 59 (sg [.ag [.b, .s, .i .i64], .ip [.i .u8], .ip [.i .u64]] [.lf (.b)]) qe6.f := fo 18 Tryz.func59 (.o qgD.ok .z)
theorem qgE.ok : Fo 63 (sg [.ag [.b, .s, .i .i64], .lf (.i .i64)] [.lf (.i .i64)]) fun _ => qgE.f := fo 22 Tryz.func63 (.o qcO.ok .z)
theorem qgF.ok : Fo 271 (sg [.lf (.i .i64)] [.lf (.b)]) fun _ => qgF.f := fo 8 Tryz.func271 .z
theorem q7.ok : Fo 261 (sg [.lf (.is .u8), .lf (.i .u64), .lf (.i .i64), .lf (.b), .lf (.b)] [.lf (.is .u8), .lf (.s)]) q7.f := fo 102 Tryz.func261 (.o qgF.ok (.o qcm.ok .z)) [[tt, tt, tt, tt, tt, ff, tt, ff, tt, tt, tt, ff, ff], [tt, tt, tt, tt, tt, ff, tt, tt, tt, ff, ff], [tt, tt, tt, tt, tt], [tt, tt, tt, tt, tt, tt], [tt, tt, tt, tt, tt, tt, tt]] fun k => [⟨[(0, .lf (.is .u8)), (1, .lf (.i .u64)), (3, .lf (.b)), (4, .lf (.b)), (10, .ow .u8), (11, .lf (.s)), (12, .ar .u8), (13, .lf (.i .i64)), (14, .lf (.i .u64)), (15, .lf (.i .u64)), (16, .lf (.i .u64))], q7.l0 k⟩, ⟨[(0, .lf (.is .u8)), (1, .lf (.i .u64)), (3, .lf (.b)), (4, .lf (.b)), (10, .ow .u8), (11, .lf (.s)), (12, .ar .u8), (13, .lf (.i .i64)), (17, .lf (.i .u64))], q7.l1 k⟩, ⟨[(0, .lf (.is .u8)), (1, .lf (.i .u64)), (2, .lf (.i .i64)), (3, .lf (.b)), (4, .lf (.b)), (10, .ow .u8), (11, .lf (.s)), (12, .ar .u8), (13, .lf (.i .i64))], q7.j2 k⟩, ⟨[(0, .lf (.is .u8)), (3, .lf (.b)), (4, .lf (.b)), (10, .ow .u8), (11, .lf (.s)), (12, .ar .u8), (13, .lf (.i .i64))], q7.j5 k⟩, ⟨[(0, .lf (.is .u8)), (4, .lf (.b)), (10, .ow .u8), (11, .lf (.s)), (12, .ar .u8), (13, .lf (.i .i64))], q7.j6 k⟩]
theorem qgG.ok : Fo 258 (sg [.lf (.i .i64)] [.lf (.s)]) fun _ => qgG.f := fo 15 Tryz.func258 .z
theorem qgH.ok : Fo 269 (sg [.lf (.i .i64)] [.lf (.i .i64)]) fun _ => qgH.f := fo 6 Tryz.func269 .z
theorem qgI.ok : Fo 270 (sg [.lf (.b)] [.lf (.i .i64)]) fun _ => qgI.f := fo 4 Tryz.func270 .z
theorem qgJ.ok : Fo 259 (sg [.lf (.i .u64)] [.lf (.i .i64)]) qgJ.f := fo 15 Tryz.func259 (.o qO.ok (.o qgH.ok (.o qgI.ok .z)))
theorem qaX.ok : Fo 260 (sg [.bo .u8, .lf (.i .u64)] []) qaX.f := fo 167 Tryz.func260 .z [[tt, ff, ff], [tt, tt, tt, tt], [tt, tt, tt, tt, tt]] fun k => [⟨[(0, .bo .u8), (1, .lf (.i .u64)), (4, .lf (.i .i64))], qaX.l0 k⟩, ⟨[(0, .bo .u8), (4, .lf (.i .i64)), (12, .lf (.i .u32))], qaX.j1 k⟩, ⟨[(0, .bo .u8), (4, .lf (.i .i64)), (12, .lf (.i .u32))], qaX.j2 k⟩]
theorem qct.ok : Fo 236 (sg [.lf (.i .i64), .lf (.i .i64)] [.lf (.s)]) qct.f := fo 54 Tryz.func236 (.o qgG.ok (.o qgJ.ok (.o qaX.ok (.o q7.ok .z)))) [[tt, ff, tt, ff, tt, tt, tt, tt]] fun k => [⟨[(0, .lf (.i .i64)), (5, .ar .u8), (6, .lf (.i .u64))], qct.j2 k⟩]
theorem qgK.ok : Fo 188 (sg [.lf (.i .i64)] [.lf (.s)]) qgK.f := fo 5 Tryz.func188 (.o qct.ok .z)
theorem qe7.ok : Fo 123 (sg [.lf (.i .i64)] [.lf (.s)]) qe7.f := fo 5 Tryz.func123 (.o qgK.ok .z)
end Go.Proofs.YtnkpmjhlkmlmbaaGreatDoor.Eng
namespace Go.Proofs
open Go.Shelf Go.RowKit Go.Proofs.YtnkpmjhlkmlmbaaGreatDoor.Eng
set_option maxRecDepth 100000
def Tryz.renWB : Ren := { Tryz.layRepeat_ren with f := fun n => if n = 167 then 121 else Tryz.layRepeat_ren.f n }
theorem Tryz.layWB : Lays.n167 Tryz.prog Tryz.renWB where
 mixed := Tryz.layRepeat.mixed
 f167 := by kernel_rfl
 f240 := by kernel_rfl
 f276 := by kernel_rfl
 t0 := Tryz.layRepeat.t0
 a0 := Tryz.layRepeat.a0
 z0 := Tryz.layRepeat.z0
 v0 := Tryz.layRepeat.v0
 t4 := Tryz.layRepeat.t4
 a4 := Tryz.layRepeat.a4
 z4 := Tryz.layRepeat.z4
 v4 := Tryz.layRepeat.v4
 t5 := Tryz.layRepeat.t5
 a5 := Tryz.layRepeat.a5
 z5 := Tryz.layRepeat.z5
 v5 := Tryz.layRepeat.v5
 t9 := Tryz.layRepeat.t9
 a9 := Tryz.layRepeat.a9
 z9 := Tryz.layRepeat.z9
 v9 := Tryz.layRepeat.v9
 t20 := Tryz.layRepeat.t20
 a20 := Tryz.layRepeat.a20
 z20 := Tryz.layRepeat.z20
 v20 := Tryz.layRepeat.v20
 t37 := Tryz.layRepeat.t37
 a37 := Tryz.layRepeat.a37
 z37 := Tryz.layRepeat.z37
 v37 := Tryz.layRepeat.v37
 t70 := Tryz.layRepeat.t70
 a70 := Tryz.layRepeat.a70
 z70 := Tryz.layRepeat.z70
 v70 := Tryz.layRepeat.v70
 t72 := Tryz.layRepeat.t72
 a72 := Tryz.layRepeat.a72
 z72 := Tryz.layRepeat.z72
 v72 := Tryz.layRepeat.v72
 t75 := Tryz.layRepeat.t75
 a75 := Tryz.layRepeat.a75
 z75 := Tryz.layRepeat.z75
 v75 := Tryz.layRepeat.v75
 t164 := Tryz.layRepeat.t164
 a164 := Tryz.layRepeat.a164
 z164 := Tryz.layRepeat.z164
 v164 := Tryz.layRepeat.v164
theorem Tryz.layWS : Lays.n166 Tryz.prog Tryz.layRepeat_ren := { Tryz.layRepeat with }
theorem Tryz.laySt : Lays.n169 Tryz.prog Tryz.layRepeat_ren := { Tryz.layRepeat with }
theorem Tryz.xWB : Builder.Extra Tryz.prog Tryz.renWB := { Tryz.extraRepeat with }
theorem bc_app (l : List UInt8) (s : ByteArray) : Lib.byteCells l ++ Lib.strCells s = Lib.byteCells (l ++ s.data.toList) := by
 rw [Lib.byteCells_append]; rfl
theorem Tryz.wb (B b : Nat) (l : List UInt8) (w : World) (h : Lib.IsBuilder 176 5 B b (Lib.byteCells l) w) (hlen : l.length ≤ 1000000000) (hBw : B ≤ w.heap.size) :
  Calls Tryz.prog 121 #[.pointer (some ⟨b, 0, none⟩), .int .u8 45] w fun e w' => e = .returned .nilIface ∧ Lib.IsBuilder 176 5 B b (Lib.byteCells (l ++ [45])) w' ∧ Below B w w' :=
 (Any.Builder_WriteByte Tryz.layWB Tryz.xWB B b (Lib.byteCells l) 45 w h (by rw [Lib.byteCells_length]; omega) hBw).mono fun e w' ⟨h1, h2, h3⟩ => ⟨h1, .inr (by rw [Lib.byteCells_append]; exact h2), h3⟩
theorem Tryz.ws (B b : Nat) (l : List UInt8) (s : ByteArray) (w : World) (h : Lib.IsBuilder 176 5 B b (Lib.byteCells l) w) (hlen : l.length ≤ 1000000000) (hs : s.size ≤ 1000000000) (hBw : B ≤ w.heap.size) :
  Calls Tryz.prog 122 #[.pointer (some ⟨b, 0, none⟩), .string s] w fun e w' => e = .returned (.tuple #[.int .i64 s.size, .nilIface]) ∧ Lib.IsBuilder 176 5 B b (Lib.byteCells (l ++ s.data.toList)) w' ∧ Below B w w' :=
 (Any.Builder_WriteString Tryz.layWS Tryz.extraRepeat B b (Lib.byteCells l) s w h (by rw [Lib.byteCells_length]; omega) hBw).mono fun e w' ⟨h1, h2, h3⟩ => ⟨h1, .inr (by rw [← bc_app]; exact h2), h3⟩
theorem Tryz.st (B b : Nat) (l : List UInt8) (w : World) (h : Lib.IsBuilder 176 5 B b (Lib.byteCells l) w) (hBw : B ≤ w.heap.size) :
  Calls Tryz.prog 125 #[.pointer (some ⟨b, 0, none⟩)] w fun e w' => e = .returned (.string ⟨l.toArray⟩) ∧ Below B w w' := Any.Builder_String_any Tryz.laySt Tryz.extraRepeat B b l w h hBw
theorem builder_below {T e : TypeId} {B b : Nat} {bs : List Value} {w w' : World} (h : Lib.IsBuilder T e B b bs w) (hb : Below w.heap.size w w') : Lib.IsBuilder T e B b bs w' := by
 have one : ∀ p, Lib.BuilderAt T e B b p bs w → Lib.BuilderAt T e B b p bs w' := by
  rintro p ⟨h1, v, h2, h3, h4⟩
  refine ⟨h1, v, ?_, ?_, h4⟩
  ·rw [hb.block b (Array.getElem?_eq_some_iff.1 h2).1]; exact h2
  ·obtain ⟨k1, k2 | ⟨g, cap, cur, k2, k3, k4, k5⟩⟩ := h3
   ·exact ⟨k1, .inl k2⟩
   ·exact ⟨k1, .inr ⟨g, cap, cur, k2, k3, by rw [hb.block g (Array.getElem?_eq_some_iff.1 k4).1]; exact k4, k5⟩⟩
 rcases h with h | h
 ·exact .inl (one _ h)
 ·exact .inr (one _ h)
theorem ba_ext {a b : ByteArray} (h : a.data.toList = b.data.toList) : a = b := by
 cases a; cases b
 congr
 exact Array.toList_inj.1 h
theorem ba_len (s : ByteArray) : s.data.toList.length = s.size := by rw [Array.length_toList]; rfl
theorem ba_app (a b : ByteArray) : (a ++ b).data.toList = a.data.toList ++ b.data.toList := by simp
set_option maxHeartbeats 8000000 in
set_option maxRecDepth 1000000 in
theorem Tryz.plain_walk (k : Nat) (neg : Bool) (d : ByteArray) (x : Int) (r : ByteArray) (hr : qaL.f k neg d x = some r) (hx1 : -9223372036854775808 ≤ x) (hx2 : x < 9223372036854775808) (w : World)
 (hI : ∀ it, qe7.f k x = some it → ∀ w1 : World, Below w.heap.size w w1 → Calls Tryz.prog 123 #[.int .i64 x] w1 fun e w' => e = .returned (.string it) ∧ Below w1.heap.size w1 w') :
  Calls Tryz.prog 65 #[.agg #[.bool neg, .string d, .int .i64 x]] w fun e w' => e = .returned (.string r) ∧ Below w.heap.size w w' := by
 unfold qaL.f at hr
 split at hr
 case isFalse => cases hr
 rename_i hb
 obtain ⟨hb1, hb2, hb3⟩ := hb
 have hw : ∀ n : Int, -4000000 ≤ n → n ≤ 4000000 → wrap64 n = n := fun n h1 h2 => by unfold wrap64; omega
 have hRep : ∀ (n : Int) (z : ByteArray) (w1 : World), qaB.f (⟨#[48]⟩ : ByteArray) n = some z → Calls Tryz.prog 124 #[.string ⟨#[48]⟩, .int .i64 n] w1 fun e w' => e = .returned (.string z) ∧ Below w1.heap.size w1 w' := by
  intro n z w1 hz
  unfold qaB.f at hz
  split at hz
  case isFalse => cases hz
  rename_i h
  obtain rfl := Option.some.inj hz
  have := Any.strings_Repeat Tryz.layRepeat Tryz.extraRepeat ⟨#[48]⟩ n.toNat w1 (by omega) h.2.1
  rw [Int.toNat_of_nonneg h.1] at this
  exact this
 have hRs : ∀ (n : Int) (z : ByteArray), qaB.f (⟨#[48]⟩ : ByteArray) n = some z → n ≤ 10000000 → z.size ≤ 10000000 := by
  intro n z hz hn
  unfold qaB.f at hz
  split at hz
  case isFalse => cases hz
  rename_i h
  obtain rfl := Option.some.inj hz
  show (Lib.repeatL [48] n.toNat).toArray.size ≤ _
  rw [List.size_toArray, Lib.repeatL_length]
  simp
  omega
 have hex : ∀ i j, (d.extract i j).size ≤ 1000000 := fun i j => by rw [ByteArray.size_extract]; omega
 go_enter Tryz.func65, Tryz.ntmps65
 cases neg with
 | false =>
  have hB0 : Lib.IsBuilder 176 5 (w.heap.size + 1) (w.heap.size + 1) (Lib.byteCells []) ((w.alloc (Obj.cells #[Value.bool false, Value.string d, Value.int IntKind.i64 x] 96)).alloc (Obj.cells #[Value.pointer none, Value.slice none 0 0] 176)) := by
   have := Lib.fresh_isBuilder 176 5 (w.alloc (Obj.cells #[Value.bool false, Value.string d, Value.int IntKind.i64 x] 96))
   have e : (w.alloc (Obj.cells #[Value.bool false, Value.string d, Value.int IntKind.i64 x] 96)).heap.size = w.heap.size + 1 := by simp
   rw [e] at this
   exact this
  have hbel0 : Below w.heap.size w ((w.alloc (Obj.cells #[Value.bool false, Value.string d, Value.int IntKind.i64 x] 96)).alloc (Obj.cells #[Value.pointer none, Value.slice none 0 0] 176)) := ((Below.refl _ w).alloc (Nat.le_refl _) _).alloc (by simp) _
  have hsz0 : w.heap.size + 2 ≤ ((w.alloc (Obj.cells #[Value.bool false, Value.string d, Value.int IntKind.i64 x] 96)).alloc (Obj.cells #[Value.pointer none, Value.slice none 0 0] 176)).heap.size := by simp
  have hc10 : ((w.alloc (Obj.cells #[Value.bool false, Value.string d, Value.int IntKind.i64 x] 96)).alloc (Obj.cells #[Value.pointer none, Value.slice none 0 0] 176)).cell? ⟨w.heap.size, 1, none⟩ = some (.string d) := by go_simp
  have hc20 : ((w.alloc (Obj.cells #[Value.bool false, Value.string d, Value.int IntKind.i64 x] 96)).alloc (Obj.cells #[Value.pointer none, Value.slice none 0 0] 176)).cell? ⟨w.heap.size, 2, none⟩ = some (.int .i64 x) := by go_simp
  go_wp2_with (fail)
  generalize ((w.alloc (Obj.cells #[Value.bool false, Value.string d, Value.int IntKind.i64 x] 96)).alloc (Obj.cells #[Value.pointer none, Value.slice none 0 0] 176)) = W1 at *
  have hB := hB0
  have hbel := hbel0
  have hsz := hsz0
  have hc1 := hc10
  have hc2 := hc20
  have hB1 : Lib.IsBuilder 176 5 (w.heap.size + 1) (w.heap.size + 1) (Lib.byteCells ([] : List UInt8)) W1.drew := by
   rcases hB with h | h
   ·exact .inl h.drew
   ·exact .inr h.drew
  have hw1 : Below w.heap.size w W1.drew := hbel.drew
  have hs1 : w.heap.size + 2 ≤ W1.drew.heap.size := hsz
  clear hB hbel hsz hB0 hbel0 hsz0 hc10 hc20
  go_region
  all_goals go_wp2_with (fail)
  ·rw [if_pos (by omega)] at hr
   split at hr
   case isFalse => cases hr
   rename_i hd1
   obtain ⟨it, hit, hr⟩ := Option.bind_eq_some_iff.1 hr
   split at hr
   case isFalse => cases hr
   rename_i hits
   obtain rfl := Option.some.inj hr
   refine (Tryz.ws (w.heap.size + 1) (w.heap.size + 1) ([] : List UInt8) (d.extract 0 1) _ hB1 (by simp) (Nat.le_trans (hex 0 1) (by omega)) (by omega)).mono ?_
   rintro e W2 ⟨rfl, hB2, b2⟩
   have s2 := b2.size
   have hw2 := hw1.trans (b2.mono (by omega))
   have l2 : (([] : List UInt8) ++ (d.extract 0 1).data.toList).length ≤ 1000001 := by
    have := hex 0 1
    have h1 : (d.extract 0 1).data.toList.length = (d.extract 0 1).size := by simp
    rw [List.length_append, h1]; simp; omega
   have hse : ((⟨#[101]⟩ : ByteArray) ++ it).size ≤ 2000000 := by rw [ByteArray.size_append]; have h1 : (⟨#[101]⟩ : ByteArray).size = 1 := rfl; omega
   have hsd : ((⟨#[46]⟩ : ByteArray) ++ d.extract 1 d.size).size ≤ 2000000 := by rw [ByteArray.size_append]; have := hex 1 d.size; have h1 : (⟨#[46]⟩ : ByteArray).size = 1 := rfl; omega
   have hx1' := hex 1 d.size
   have fin : ∀ (L3 : List UInt8) (W3 : World), w.heap.size + 2 ≤ W3.heap.size → L3.length ≤ 4000000 → Lib.IsBuilder 176 5 (w.heap.size + 1) (w.heap.size + 1) (Lib.byteCells L3) W3 → Below w.heap.size w W3 →
     Calls Tryz.prog 123 #[.int .i64 x] W3 (fun e w' => e = .returned (.string it) ∧ Lib.IsBuilder 176 5 (w.heap.size + 1) (w.heap.size + 1) (Lib.byteCells L3) w' ∧ Below w.heap.size w w' ∧ W3.heap.size ≤ w'.heap.size) := by
    intro L3 W3 h1 h2 h3 h4
    refine (hI it hit W3 h4).mono ?_
    rintro e w' ⟨h5, h6⟩
    exact ⟨h5, builder_below h3 h6, h4.trans (h6.mono (by omega)), h6.size⟩
   go_wp2_with (fail)
   ·rename_i hd2
    refine (Tryz.ws (w.heap.size + 1) (w.heap.size + 1) _ _ _ hB2 (by omega) (by omega) (by omega)).mono ?_
    rintro e W3 ⟨rfl, hB3, b3⟩
    have s3 := b3.size
    have hw3 := hw2.trans (b3.mono (by omega))
    have l3 : (([] : List UInt8) ++ (d.extract 0 1).data.toList ++ ((⟨#[46]⟩ : ByteArray) ++ d.extract 1 d.size).data.toList).length ≤ 3500000 := by
     have h1 : ((⟨#[46]⟩ : ByteArray) ++ d.extract 1 d.size).data.toList.length = ((⟨#[46]⟩ : ByteArray) ++ d.extract 1 d.size).size := ba_len _
     rw [List.length_append, h1]; omega
    go_wp2_with (fail)
    refine (fin _ W3 (by omega) (by omega) hB3 hw3).mono ?_
    rintro e W4 ⟨rfl, hB4, hw4, s4⟩
    go_wp2_with (fail)
    refine (Tryz.ws (w.heap.size + 1) (w.heap.size + 1) _ _ _ hB4 (by omega) (by omega) (by omega)).mono ?_
    rintro e W5 ⟨rfl, hB5, b5⟩
    have s5 := b5.size
    have hw5 := hw4.trans (b5.mono (by omega))
    go_wp2_with (fail)
    have hd3 : d.size > 1 := by omega
    refine (Tryz.st (w.heap.size + 1) (w.heap.size + 1) _ _ hB5 (by omega)).mono ?_
    rintro e W9 ⟨rfl, b9⟩
    go_wp2_with (fail)
    go_ret
    exact ⟨congrArg (fun s => Ending.returned (Value.string s)) (ba_ext (by simp only [ba_app, List.append_assoc, if_pos hd3, List.nil_append, List.append_nil, List.singleton_append, List.cons_append, List.toList_toArray, if_true, Bool.false_eq_true, if_false, ByteArray.data_extract, Array.toList_extract, List.extract_eq_take_drop, List.drop_zero, Nat.sub_zero, List.drop_one])), hw5.trans (b9.mono (by omega))⟩
   ·rename_i hd2
    refine (fin _ W2 (by omega) (by omega) hB2 hw2).mono ?_
    rintro e W4 ⟨rfl, hB4, hw4, s4⟩
    go_wp2_with (fail)
    refine (Tryz.ws (w.heap.size + 1) (w.heap.size + 1) _ _ _ hB4 (by omega) (by omega) (by omega)).mono ?_
    rintro e W5 ⟨rfl, hB5, b5⟩
    have s5 := b5.size
    have hw5 := hw4.trans (b5.mono (by omega))
    go_wp2_with (fail)
    have hd3 : ¬ d.size > 1 := by omega
    refine (Tryz.st (w.heap.size + 1) (w.heap.size + 1) _ _ hB5 (by omega)).mono ?_
    rintro e W9 ⟨rfl, b9⟩
    go_wp2_with (fail)
    go_ret
    exact ⟨congrArg (fun s => Ending.returned (Value.string s)) (ba_ext (by simp only [ba_app, List.append_assoc, if_neg hd3, List.nil_append, List.append_nil, List.singleton_append, List.cons_append, List.toList_toArray, if_true, Bool.false_eq_true, if_false, ByteArray.data_extract, Array.toList_extract, List.extract_eq_take_drop, List.drop_zero, Nat.sub_zero, List.drop_one])), hw5.trans (b9.mono (by omega))⟩
  ·exfalso
   rw [if_pos (by omega)] at hr
   split at hr
   ·omega
   ·cases hr
  ·rw [if_neg (by omega), if_pos (by omega)] at hr
   obtain ⟨z, hz, hr⟩ := Option.bind_eq_some_iff.1 hr
   obtain rfl := Option.some.inj hr
   have hzs := hRs _ _ hz (by omega)
   refine (hRep _ z _ hz).mono ?_
   rintro e W2 ⟨rfl, b2⟩
   have s2 := b2.size
   have hB2 := builder_below hB1 b2
   have hw2 := hw1.trans (b2.mono (by omega))
   have h02 : (⟨#[48, 46]⟩ : ByteArray).size = 2 := rfl
   have hza : ((⟨#[48, 46]⟩ : ByteArray) ++ z).size = 2 + z.size := by rw [ByteArray.size_append]; omega
   have hzb : ((⟨#[48, 46]⟩ : ByteArray) ++ z ++ d).size = 2 + z.size + d.size := by rw [ByteArray.size_append]; omega
   go_wp2_with (fail)
   refine (Tryz.ws (w.heap.size + 1) (w.heap.size + 1) _ _ _ hB2 (by simp) (by omega) (by omega)).mono ?_
   rintro e W5 ⟨rfl, hB5, b5⟩
   have s5 := b5.size
   have hw5 := hw2.trans (b5.mono (by omega))
   go_wp2_with (fail)
   refine (Tryz.st (w.heap.size + 1) (w.heap.size + 1) _ _ hB5 (by omega)).mono ?_
   rintro e W9 ⟨rfl, b9⟩
   go_wp2_with (fail)
   go_ret
   exact ⟨congrArg (fun s => Ending.returned (Value.string s)) (ba_ext (by simp only [ba_app, List.append_assoc, List.nil_append, List.append_nil, List.singleton_append, List.cons_append, List.toList_toArray, if_true, Bool.false_eq_true, if_false, ByteArray.data_extract, Array.toList_extract, List.extract_eq_take_drop, List.drop_zero, Nat.sub_zero, List.drop_one])), hw5.trans (b9.mono (by omega))⟩
  ·rw [if_neg (by omega), if_neg (by omega), if_pos (by omega)] at hr
   obtain rfl := Option.some.inj hr
   have h46 : (⟨#[46]⟩ : ByteArray).size = 1 := rfl
   have hxa := hex 0 (x + 1).toNat
   have hxb := hex (x + 1).toNat d.size
   have hza : (d.extract 0 (x + 1).toNat ++ (⟨#[46]⟩ : ByteArray)).size = (d.extract 0 (x + 1).toNat).size + 1 := by rw [ByteArray.size_append, h46]
   have hzb : (d.extract 0 (x + 1).toNat ++ (⟨#[46]⟩ : ByteArray) ++ d.extract (x + 1).toNat d.size).size = (d.extract 0 (x + 1).toNat).size + 1 + (d.extract (x + 1).toNat d.size).size := by rw [ByteArray.size_append, hza]
   have hB2 : Lib.IsBuilder 176 5 (w.heap.size + 1) (w.heap.size + 1) (Lib.byteCells ([] : List UInt8)) W1.drew.drew := by
    rcases hB1 with h | h
    ·exact .inl h.drew
    ·exact .inr h.drew
   have hs2 : w.heap.size + 2 ≤ W1.drew.drew.heap.size := hs1
   have q1 : x + 1 ≤ (d.size : Int) := by omega
   have q2 : 0 ≤ x + 1 := by omega
   have q3 : IntKind.i64.wrap (x + 1) = x + 1 := by simp [IntKind.wrap, IntKind.bits, IntKind.signed]; omega
   go_region_with (go_at_call 122; refine (Tryz.ws (w.heap.size + 1) (w.heap.size + 1) _ _ _ hB2 (by simp) (by omega) (by omega)).mono ?_; rintro e W5 ⟨rfl, hB5, b5⟩)
   have s5 := b5.size
   have hw5 := hw1.drew.trans (b5.mono (by omega))
   go_wp2_with (fail)
   refine (Tryz.st (w.heap.size + 1) (w.heap.size + 1) _ _ hB5 (by omega)).mono ?_
   rintro e W9 ⟨rfl, b9⟩
   go_wp2_with (fail)
   go_ret
   exact ⟨congrArg (fun s => Ending.returned (Value.string s)) (ba_ext (by simp only [ba_app, List.append_assoc, List.nil_append, List.append_nil, List.singleton_append, List.cons_append, List.toList_toArray, if_true, Bool.false_eq_true, if_false, ByteArray.data_extract, Array.toList_extract, List.extract_eq_take_drop, List.drop_zero, Nat.sub_zero, List.drop_one])), hw5.trans (b9.mono (by omega))⟩
  ·rw [if_neg (by omega), if_neg (by omega), if_neg (by omega)] at hr
   obtain ⟨z, hz, hr⟩ := Option.bind_eq_some_iff.1 hr
   obtain rfl := Option.some.inj hr
   have hzs := hRs _ _ hz (by omega)
   refine (hRep _ z _ hz).mono ?_
   rintro e W2 ⟨rfl, b2⟩
   have s2 := b2.size
   have hB2 := builder_below hB1 b2
   have hw2 := hw1.trans (b2.mono (by omega))
   have hza : (d ++ z).size = d.size + z.size := by rw [ByteArray.size_append]
   go_wp2_with (fail)
   refine (Tryz.ws (w.heap.size + 1) (w.heap.size + 1) _ _ _ hB2 (by simp) (by omega) (by omega)).mono ?_
   rintro e W5 ⟨rfl, hB5, b5⟩
   have s5 := b5.size
   have hw5 := hw2.trans (b5.mono (by omega))
   go_wp2_with (fail)
   refine (Tryz.st (w.heap.size + 1) (w.heap.size + 1) _ _ hB5 (by omega)).mono ?_
   rintro e W9 ⟨rfl, b9⟩
   go_wp2_with (fail)
   go_ret
   exact ⟨congrArg (fun s => Ending.returned (Value.string s)) (ba_ext (by simp only [ba_app, List.append_assoc, List.nil_append, List.append_nil, List.singleton_append, List.cons_append, List.toList_toArray, if_true, Bool.false_eq_true, if_false, ByteArray.data_extract, Array.toList_extract, List.extract_eq_take_drop, List.drop_zero, Nat.sub_zero, List.drop_one])), hw5.trans (b9.mono (by omega))⟩
  ·rw [if_pos (by omega)] at hr
   split at hr
   case isFalse => cases hr
   rename_i hd1
   obtain ⟨it, hit, hr⟩ := Option.bind_eq_some_iff.1 hr
   split at hr
   case isFalse => cases hr
   rename_i hits
   obtain rfl := Option.some.inj hr
   refine (Tryz.ws (w.heap.size + 1) (w.heap.size + 1) ([] : List UInt8) (d.extract 0 1) _ hB1 (by simp) (Nat.le_trans (hex 0 1) (by omega)) (by omega)).mono ?_
   rintro e W2 ⟨rfl, hB2, b2⟩
   have s2 := b2.size
   have hw2 := hw1.trans (b2.mono (by omega))
   have l2 : (([] : List UInt8) ++ (d.extract 0 1).data.toList).length ≤ 1000001 := by
    have := hex 0 1
    have h1 : (d.extract 0 1).data.toList.length = (d.extract 0 1).size := by simp
    rw [List.length_append, h1]; simp; omega
   have hse : ((⟨#[101]⟩ : ByteArray) ++ it).size ≤ 2000000 := by rw [ByteArray.size_append]; have h1 : (⟨#[101]⟩ : ByteArray).size = 1 := rfl; omega
   have hsd : ((⟨#[46]⟩ : ByteArray) ++ d.extract 1 d.size).size ≤ 2000000 := by rw [ByteArray.size_append]; have := hex 1 d.size; have h1 : (⟨#[46]⟩ : ByteArray).size = 1 := rfl; omega
   have hx1' := hex 1 d.size
   have fin : ∀ (L3 : List UInt8) (W3 : World), w.heap.size + 2 ≤ W3.heap.size → L3.length ≤ 4000000 → Lib.IsBuilder 176 5 (w.heap.size + 1) (w.heap.size + 1) (Lib.byteCells L3) W3 → Below w.heap.size w W3 →
     Calls Tryz.prog 123 #[.int .i64 x] W3 (fun e w' => e = .returned (.string it) ∧ Lib.IsBuilder 176 5 (w.heap.size + 1) (w.heap.size + 1) (Lib.byteCells L3) w' ∧ Below w.heap.size w w' ∧ W3.heap.size ≤ w'.heap.size) := by
    intro L3 W3 h1 h2 h3 h4
    refine (hI it hit W3 h4).mono ?_
    rintro e w' ⟨h5, h6⟩
    exact ⟨h5, builder_below h3 h6, h4.trans (h6.mono (by omega)), h6.size⟩
   go_wp2_with (fail)
   ·rename_i hd2
    refine (Tryz.ws (w.heap.size + 1) (w.heap.size + 1) _ _ _ hB2 (by omega) (by omega) (by omega)).mono ?_
    rintro e W3 ⟨rfl, hB3, b3⟩
    have s3 := b3.size
    have hw3 := hw2.trans (b3.mono (by omega))
    have l3 : (([] : List UInt8) ++ (d.extract 0 1).data.toList ++ ((⟨#[46]⟩ : ByteArray) ++ d.extract 1 d.size).data.toList).length ≤ 3500000 := by
     have h1 : ((⟨#[46]⟩ : ByteArray) ++ d.extract 1 d.size).data.toList.length = ((⟨#[46]⟩ : ByteArray) ++ d.extract 1 d.size).size := ba_len _
     rw [List.length_append, h1]; omega
    go_wp2_with (fail)
    refine (fin _ W3 (by omega) (by omega) hB3 hw3).mono ?_
    rintro e W4 ⟨rfl, hB4, hw4, s4⟩
    go_wp2_with (fail)
    refine (Tryz.ws (w.heap.size + 1) (w.heap.size + 1) _ _ _ hB4 (by omega) (by omega) (by omega)).mono ?_
    rintro e W5 ⟨rfl, hB5, b5⟩
    have s5 := b5.size
    have hw5 := hw4.trans (b5.mono (by omega))
    go_wp2_with (fail)
    have hd3 : d.size > 1 := by omega
    refine (Tryz.st (w.heap.size + 1) (w.heap.size + 1) _ _ hB5 (by omega)).mono ?_
    rintro e W9 ⟨rfl, b9⟩
    go_wp2_with (fail)
    go_ret
    exact ⟨congrArg (fun s => Ending.returned (Value.string s)) (ba_ext (by simp only [ba_app, List.append_assoc, if_pos hd3, List.nil_append, List.append_nil, List.singleton_append, List.cons_append, List.toList_toArray, if_true, Bool.false_eq_true, if_false, ByteArray.data_extract, Array.toList_extract, List.extract_eq_take_drop, List.drop_zero, Nat.sub_zero, List.drop_one])), hw5.trans (b9.mono (by omega))⟩
   ·rename_i hd2
    refine (fin _ W2 (by omega) (by omega) hB2 hw2).mono ?_
    rintro e W4 ⟨rfl, hB4, hw4, s4⟩
    go_wp2_with (fail)
    refine (Tryz.ws (w.heap.size + 1) (w.heap.size + 1) _ _ _ hB4 (by omega) (by omega) (by omega)).mono ?_
    rintro e W5 ⟨rfl, hB5, b5⟩
    have s5 := b5.size
    have hw5 := hw4.trans (b5.mono (by omega))
    go_wp2_with (fail)
    have hd3 : ¬ d.size > 1 := by omega
    refine (Tryz.st (w.heap.size + 1) (w.heap.size + 1) _ _ hB5 (by omega)).mono ?_
    rintro e W9 ⟨rfl, b9⟩
    go_wp2_with (fail)
    go_ret
    exact ⟨congrArg (fun s => Ending.returned (Value.string s)) (ba_ext (by simp only [ba_app, List.append_assoc, if_neg hd3, List.nil_append, List.append_nil, List.singleton_append, List.cons_append, List.toList_toArray, if_true, Bool.false_eq_true, if_false, ByteArray.data_extract, Array.toList_extract, List.extract_eq_take_drop, List.drop_zero, Nat.sub_zero, List.drop_one])), hw5.trans (b9.mono (by omega))⟩
  ·exfalso
   rw [if_pos (by omega)] at hr
   split at hr
   ·omega
   ·cases hr
 | true =>
  have hB0 : Lib.IsBuilder 176 5 (w.heap.size + 1) (w.heap.size + 1) (Lib.byteCells []) ((w.alloc (Obj.cells #[Value.bool true, Value.string d, Value.int IntKind.i64 x] 96)).alloc (Obj.cells #[Value.pointer none, Value.slice none 0 0] 176)) := by
   have := Lib.fresh_isBuilder 176 5 (w.alloc (Obj.cells #[Value.bool true, Value.string d, Value.int IntKind.i64 x] 96))
   have e : (w.alloc (Obj.cells #[Value.bool true, Value.string d, Value.int IntKind.i64 x] 96)).heap.size = w.heap.size + 1 := by simp
   rw [e] at this
   exact this
  have hbel0 : Below w.heap.size w ((w.alloc (Obj.cells #[Value.bool true, Value.string d, Value.int IntKind.i64 x] 96)).alloc (Obj.cells #[Value.pointer none, Value.slice none 0 0] 176)) := ((Below.refl _ w).alloc (Nat.le_refl _) _).alloc (by simp) _
  have hsz0 : w.heap.size + 2 ≤ ((w.alloc (Obj.cells #[Value.bool true, Value.string d, Value.int IntKind.i64 x] 96)).alloc (Obj.cells #[Value.pointer none, Value.slice none 0 0] 176)).heap.size := by simp
  have hc10 : ((w.alloc (Obj.cells #[Value.bool true, Value.string d, Value.int IntKind.i64 x] 96)).alloc (Obj.cells #[Value.pointer none, Value.slice none 0 0] 176)).cell? ⟨w.heap.size, 1, none⟩ = some (.string d) := by go_simp
  have hc20 : ((w.alloc (Obj.cells #[Value.bool true, Value.string d, Value.int IntKind.i64 x] 96)).alloc (Obj.cells #[Value.pointer none, Value.slice none 0 0] 176)).cell? ⟨w.heap.size, 2, none⟩ = some (.int .i64 x) := by go_simp
  go_wp2_with (fail)
  refine (Tryz.wb (w.heap.size + 1) (w.heap.size + 1) [] _ hB0 (by simp) (by omega)).mono ?_
  rintro e W1 ⟨rfl, hB, b1⟩
  have hbel := hbel0.trans (b1.mono (by omega))
  have hsz : w.heap.size + 2 ≤ W1.heap.size := Nat.le_trans hsz0 b1.size
  have hc1 : W1.cell? ⟨w.heap.size, 1, none⟩ = some (.string d) := by rw [b1.cell (by show w.heap.size < w.heap.size + 1; omega)]; exact hc10
  have hc2 : W1.cell? ⟨w.heap.size, 2, none⟩ = some (.int .i64 x) := by rw [b1.cell (by show w.heap.size < w.heap.size + 1; omega)]; exact hc20
  go_wp2_with (fail)
  have hB1 : Lib.IsBuilder 176 5 (w.heap.size + 1) (w.heap.size + 1) (Lib.byteCells ([45] : List UInt8)) W1.drew := by
   rcases hB with h | h
   ·exact .inl h.drew
   ·exact .inr h.drew
  have hw1 : Below w.heap.size w W1.drew := hbel.drew
  have hs1 : w.heap.size + 2 ≤ W1.drew.heap.size := hsz
  clear hB hbel hsz hB0 hbel0 hsz0 hc10 hc20
  go_region
  all_goals go_wp2_with (fail)
  ·rw [if_pos (by omega)] at hr
   split at hr
   case isFalse => cases hr
   rename_i hd1
   obtain ⟨it, hit, hr⟩ := Option.bind_eq_some_iff.1 hr
   split at hr
   case isFalse => cases hr
   rename_i hits
   obtain rfl := Option.some.inj hr
   refine (Tryz.ws (w.heap.size + 1) (w.heap.size + 1) ([45] : List UInt8) (d.extract 0 1) _ hB1 (by simp) (Nat.le_trans (hex 0 1) (by omega)) (by omega)).mono ?_
   rintro e W2 ⟨rfl, hB2, b2⟩
   have s2 := b2.size
   have hw2 := hw1.trans (b2.mono (by omega))
   have l2 : (([45] : List UInt8) ++ (d.extract 0 1).data.toList).length ≤ 1000001 := by
    have := hex 0 1
    have h1 : (d.extract 0 1).data.toList.length = (d.extract 0 1).size := by simp
    rw [List.length_append, h1]; simp; omega
   have hse : ((⟨#[101]⟩ : ByteArray) ++ it).size ≤ 2000000 := by rw [ByteArray.size_append]; have h1 : (⟨#[101]⟩ : ByteArray).size = 1 := rfl; omega
   have hsd : ((⟨#[46]⟩ : ByteArray) ++ d.extract 1 d.size).size ≤ 2000000 := by rw [ByteArray.size_append]; have := hex 1 d.size; have h1 : (⟨#[46]⟩ : ByteArray).size = 1 := rfl; omega
   have hx1' := hex 1 d.size
   have fin : ∀ (L3 : List UInt8) (W3 : World), w.heap.size + 2 ≤ W3.heap.size → L3.length ≤ 4000000 → Lib.IsBuilder 176 5 (w.heap.size + 1) (w.heap.size + 1) (Lib.byteCells L3) W3 → Below w.heap.size w W3 →
     Calls Tryz.prog 123 #[.int .i64 x] W3 (fun e w' => e = .returned (.string it) ∧ Lib.IsBuilder 176 5 (w.heap.size + 1) (w.heap.size + 1) (Lib.byteCells L3) w' ∧ Below w.heap.size w w' ∧ W3.heap.size ≤ w'.heap.size) := by
    intro L3 W3 h1 h2 h3 h4
    refine (hI it hit W3 h4).mono ?_
    rintro e w' ⟨h5, h6⟩
    exact ⟨h5, builder_below h3 h6, h4.trans (h6.mono (by omega)), h6.size⟩
   go_wp2_with (fail)
   ·rename_i hd2
    refine (Tryz.ws (w.heap.size + 1) (w.heap.size + 1) _ _ _ hB2 (by omega) (by omega) (by omega)).mono ?_
    rintro e W3 ⟨rfl, hB3, b3⟩
    have s3 := b3.size
    have hw3 := hw2.trans (b3.mono (by omega))
    have l3 : (([45] : List UInt8) ++ (d.extract 0 1).data.toList ++ ((⟨#[46]⟩ : ByteArray) ++ d.extract 1 d.size).data.toList).length ≤ 3500000 := by
     have h1 : ((⟨#[46]⟩ : ByteArray) ++ d.extract 1 d.size).data.toList.length = ((⟨#[46]⟩ : ByteArray) ++ d.extract 1 d.size).size := ba_len _
     rw [List.length_append, h1]; omega
    go_wp2_with (fail)
    refine (fin _ W3 (by omega) (by omega) hB3 hw3).mono ?_
    rintro e W4 ⟨rfl, hB4, hw4, s4⟩
    go_wp2_with (fail)
    refine (Tryz.ws (w.heap.size + 1) (w.heap.size + 1) _ _ _ hB4 (by omega) (by omega) (by omega)).mono ?_
    rintro e W5 ⟨rfl, hB5, b5⟩
    have s5 := b5.size
    have hw5 := hw4.trans (b5.mono (by omega))
    go_wp2_with (fail)
    have hd3 : d.size > 1 := by omega
    refine (Tryz.st (w.heap.size + 1) (w.heap.size + 1) _ _ hB5 (by omega)).mono ?_
    rintro e W9 ⟨rfl, b9⟩
    go_wp2_with (fail)
    go_ret
    exact ⟨congrArg (fun s => Ending.returned (Value.string s)) (ba_ext (by simp only [ba_app, List.append_assoc, if_pos hd3, List.nil_append, List.append_nil, List.singleton_append, List.cons_append, List.toList_toArray, if_true, Bool.false_eq_true, if_false, ByteArray.data_extract, Array.toList_extract, List.extract_eq_take_drop, List.drop_zero, Nat.sub_zero, List.drop_one])), hw5.trans (b9.mono (by omega))⟩
   ·rename_i hd2
    refine (fin _ W2 (by omega) (by omega) hB2 hw2).mono ?_
    rintro e W4 ⟨rfl, hB4, hw4, s4⟩
    go_wp2_with (fail)
    refine (Tryz.ws (w.heap.size + 1) (w.heap.size + 1) _ _ _ hB4 (by omega) (by omega) (by omega)).mono ?_
    rintro e W5 ⟨rfl, hB5, b5⟩
    have s5 := b5.size
    have hw5 := hw4.trans (b5.mono (by omega))
    go_wp2_with (fail)
    have hd3 : ¬ d.size > 1 := by omega
    refine (Tryz.st (w.heap.size + 1) (w.heap.size + 1) _ _ hB5 (by omega)).mono ?_
    rintro e W9 ⟨rfl, b9⟩
    go_wp2_with (fail)
    go_ret
    exact ⟨congrArg (fun s => Ending.returned (Value.string s)) (ba_ext (by simp only [ba_app, List.append_assoc, if_neg hd3, List.nil_append, List.append_nil, List.singleton_append, List.cons_append, List.toList_toArray, if_true, Bool.false_eq_true, if_false, ByteArray.data_extract, Array.toList_extract, List.extract_eq_take_drop, List.drop_zero, Nat.sub_zero, List.drop_one])), hw5.trans (b9.mono (by omega))⟩
  ·exfalso
   rw [if_pos (by omega)] at hr
   split at hr
   ·omega
   ·cases hr
  ·rw [if_neg (by omega), if_pos (by omega)] at hr
   obtain ⟨z, hz, hr⟩ := Option.bind_eq_some_iff.1 hr
   obtain rfl := Option.some.inj hr
   have hzs := hRs _ _ hz (by omega)
   refine (hRep _ z _ hz).mono ?_
   rintro e W2 ⟨rfl, b2⟩
   have s2 := b2.size
   have hB2 := builder_below hB1 b2
   have hw2 := hw1.trans (b2.mono (by omega))
   have h02 : (⟨#[48, 46]⟩ : ByteArray).size = 2 := rfl
   have hza : ((⟨#[48, 46]⟩ : ByteArray) ++ z).size = 2 + z.size := by rw [ByteArray.size_append]; omega
   have hzb : ((⟨#[48, 46]⟩ : ByteArray) ++ z ++ d).size = 2 + z.size + d.size := by rw [ByteArray.size_append]; omega
   go_wp2_with (fail)
   refine (Tryz.ws (w.heap.size + 1) (w.heap.size + 1) _ _ _ hB2 (by simp) (by omega) (by omega)).mono ?_
   rintro e W5 ⟨rfl, hB5, b5⟩
   have s5 := b5.size
   have hw5 := hw2.trans (b5.mono (by omega))
   go_wp2_with (fail)
   refine (Tryz.st (w.heap.size + 1) (w.heap.size + 1) _ _ hB5 (by omega)).mono ?_
   rintro e W9 ⟨rfl, b9⟩
   go_wp2_with (fail)
   go_ret
   exact ⟨congrArg (fun s => Ending.returned (Value.string s)) (ba_ext (by simp only [ba_app, List.append_assoc, List.nil_append, List.append_nil, List.singleton_append, List.cons_append, List.toList_toArray, if_true, Bool.false_eq_true, if_false, ByteArray.data_extract, Array.toList_extract, List.extract_eq_take_drop, List.drop_zero, Nat.sub_zero, List.drop_one])), hw5.trans (b9.mono (by omega))⟩
  ·rw [if_neg (by omega), if_neg (by omega), if_pos (by omega)] at hr
   obtain rfl := Option.some.inj hr
   have h46 : (⟨#[46]⟩ : ByteArray).size = 1 := rfl
   have hxa := hex 0 (x + 1).toNat
   have hxb := hex (x + 1).toNat d.size
   have hza : (d.extract 0 (x + 1).toNat ++ (⟨#[46]⟩ : ByteArray)).size = (d.extract 0 (x + 1).toNat).size + 1 := by rw [ByteArray.size_append, h46]
   have hzb : (d.extract 0 (x + 1).toNat ++ (⟨#[46]⟩ : ByteArray) ++ d.extract (x + 1).toNat d.size).size = (d.extract 0 (x + 1).toNat).size + 1 + (d.extract (x + 1).toNat d.size).size := by rw [ByteArray.size_append, hza]
   have hB2 : Lib.IsBuilder 176 5 (w.heap.size + 1) (w.heap.size + 1) (Lib.byteCells ([45] : List UInt8)) W1.drew.drew := by
    rcases hB1 with h | h
    ·exact .inl h.drew
    ·exact .inr h.drew
   have hs2 : w.heap.size + 2 ≤ W1.drew.drew.heap.size := hs1
   have q1 : x + 1 ≤ (d.size : Int) := by omega
   have q2 : 0 ≤ x + 1 := by omega
   have q3 : IntKind.i64.wrap (x + 1) = x + 1 := by simp [IntKind.wrap, IntKind.bits, IntKind.signed]; omega
   go_region_with (go_at_call 122; refine (Tryz.ws (w.heap.size + 1) (w.heap.size + 1) _ _ _ hB2 (by simp) (by omega) (by omega)).mono ?_; rintro e W5 ⟨rfl, hB5, b5⟩)
   have s5 := b5.size
   have hw5 := hw1.drew.trans (b5.mono (by omega))
   go_wp2_with (fail)
   refine (Tryz.st (w.heap.size + 1) (w.heap.size + 1) _ _ hB5 (by omega)).mono ?_
   rintro e W9 ⟨rfl, b9⟩
   go_wp2_with (fail)
   go_ret
   exact ⟨congrArg (fun s => Ending.returned (Value.string s)) (ba_ext (by simp only [ba_app, List.append_assoc, List.nil_append, List.append_nil, List.singleton_append, List.cons_append, List.toList_toArray, if_true, Bool.false_eq_true, if_false, ByteArray.data_extract, Array.toList_extract, List.extract_eq_take_drop, List.drop_zero, Nat.sub_zero, List.drop_one])), hw5.trans (b9.mono (by omega))⟩
  ·rw [if_neg (by omega), if_neg (by omega), if_neg (by omega)] at hr
   obtain ⟨z, hz, hr⟩ := Option.bind_eq_some_iff.1 hr
   obtain rfl := Option.some.inj hr
   have hzs := hRs _ _ hz (by omega)
   refine (hRep _ z _ hz).mono ?_
   rintro e W2 ⟨rfl, b2⟩
   have s2 := b2.size
   have hB2 := builder_below hB1 b2
   have hw2 := hw1.trans (b2.mono (by omega))
   have hza : (d ++ z).size = d.size + z.size := by rw [ByteArray.size_append]
   go_wp2_with (fail)
   refine (Tryz.ws (w.heap.size + 1) (w.heap.size + 1) _ _ _ hB2 (by simp) (by omega) (by omega)).mono ?_
   rintro e W5 ⟨rfl, hB5, b5⟩
   have s5 := b5.size
   have hw5 := hw2.trans (b5.mono (by omega))
   go_wp2_with (fail)
   refine (Tryz.st (w.heap.size + 1) (w.heap.size + 1) _ _ hB5 (by omega)).mono ?_
   rintro e W9 ⟨rfl, b9⟩
   go_wp2_with (fail)
   go_ret
   exact ⟨congrArg (fun s => Ending.returned (Value.string s)) (ba_ext (by simp only [ba_app, List.append_assoc, List.nil_append, List.append_nil, List.singleton_append, List.cons_append, List.toList_toArray, if_true, Bool.false_eq_true, if_false, ByteArray.data_extract, Array.toList_extract, List.extract_eq_take_drop, List.drop_zero, Nat.sub_zero, List.drop_one])), hw5.trans (b9.mono (by omega))⟩
  ·rw [if_pos (by omega)] at hr
   split at hr
   case isFalse => cases hr
   rename_i hd1
   obtain ⟨it, hit, hr⟩ := Option.bind_eq_some_iff.1 hr
   split at hr
   case isFalse => cases hr
   rename_i hits
   obtain rfl := Option.some.inj hr
   refine (Tryz.ws (w.heap.size + 1) (w.heap.size + 1) ([45] : List UInt8) (d.extract 0 1) _ hB1 (by simp) (Nat.le_trans (hex 0 1) (by omega)) (by omega)).mono ?_
   rintro e W2 ⟨rfl, hB2, b2⟩
   have s2 := b2.size
   have hw2 := hw1.trans (b2.mono (by omega))
   have l2 : (([45] : List UInt8) ++ (d.extract 0 1).data.toList).length ≤ 1000001 := by
    have := hex 0 1
    have h1 : (d.extract 0 1).data.toList.length = (d.extract 0 1).size := by simp
    rw [List.length_append, h1]; simp; omega
   have hse : ((⟨#[101]⟩ : ByteArray) ++ it).size ≤ 2000000 := by rw [ByteArray.size_append]; have h1 : (⟨#[101]⟩ : ByteArray).size = 1 := rfl; omega
   have hsd : ((⟨#[46]⟩ : ByteArray) ++ d.extract 1 d.size).size ≤ 2000000 := by rw [ByteArray.size_append]; have := hex 1 d.size; have h1 : (⟨#[46]⟩ : ByteArray).size = 1 := rfl; omega
   have hx1' := hex 1 d.size
   have fin : ∀ (L3 : List UInt8) (W3 : World), w.heap.size + 2 ≤ W3.heap.size → L3.length ≤ 4000000 → Lib.IsBuilder 176 5 (w.heap.size + 1) (w.heap.size + 1) (Lib.byteCells L3) W3 → Below w.heap.size w W3 →
     Calls Tryz.prog 123 #[.int .i64 x] W3 (fun e w' => e = .returned (.string it) ∧ Lib.IsBuilder 176 5 (w.heap.size + 1) (w.heap.size + 1) (Lib.byteCells L3) w' ∧ Below w.heap.size w w' ∧ W3.heap.size ≤ w'.heap.size) := by
    intro L3 W3 h1 h2 h3 h4
    refine (hI it hit W3 h4).mono ?_
    rintro e w' ⟨h5, h6⟩
    exact ⟨h5, builder_below h3 h6, h4.trans (h6.mono (by omega)), h6.size⟩
   go_wp2_with (fail)
   ·rename_i hd2
    refine (Tryz.ws (w.heap.size + 1) (w.heap.size + 1) _ _ _ hB2 (by omega) (by omega) (by omega)).mono ?_
    rintro e W3 ⟨rfl, hB3, b3⟩
    have s3 := b3.size
    have hw3 := hw2.trans (b3.mono (by omega))
    have l3 : (([45] : List UInt8) ++ (d.extract 0 1).data.toList ++ ((⟨#[46]⟩ : ByteArray) ++ d.extract 1 d.size).data.toList).length ≤ 3500000 := by
     have h1 : ((⟨#[46]⟩ : ByteArray) ++ d.extract 1 d.size).data.toList.length = ((⟨#[46]⟩ : ByteArray) ++ d.extract 1 d.size).size := ba_len _
     rw [List.length_append, h1]; omega
    go_wp2_with (fail)
    refine (fin _ W3 (by omega) (by omega) hB3 hw3).mono ?_
    rintro e W4 ⟨rfl, hB4, hw4, s4⟩
    go_wp2_with (fail)
    refine (Tryz.ws (w.heap.size + 1) (w.heap.size + 1) _ _ _ hB4 (by omega) (by omega) (by omega)).mono ?_
    rintro e W5 ⟨rfl, hB5, b5⟩
    have s5 := b5.size
    have hw5 := hw4.trans (b5.mono (by omega))
    go_wp2_with (fail)
    have hd3 : d.size > 1 := by omega
    refine (Tryz.st (w.heap.size + 1) (w.heap.size + 1) _ _ hB5 (by omega)).mono ?_
    rintro e W9 ⟨rfl, b9⟩
    go_wp2_with (fail)
    go_ret
    exact ⟨congrArg (fun s => Ending.returned (Value.string s)) (ba_ext (by simp only [ba_app, List.append_assoc, if_pos hd3, List.nil_append, List.append_nil, List.singleton_append, List.cons_append, List.toList_toArray, if_true, Bool.false_eq_true, if_false, ByteArray.data_extract, Array.toList_extract, List.extract_eq_take_drop, List.drop_zero, Nat.sub_zero, List.drop_one])), hw5.trans (b9.mono (by omega))⟩
   ·rename_i hd2
    refine (fin _ W2 (by omega) (by omega) hB2 hw2).mono ?_
    rintro e W4 ⟨rfl, hB4, hw4, s4⟩
    go_wp2_with (fail)
    refine (Tryz.ws (w.heap.size + 1) (w.heap.size + 1) _ _ _ hB4 (by omega) (by omega) (by omega)).mono ?_
    rintro e W5 ⟨rfl, hB5, b5⟩
    have s5 := b5.size
    have hw5 := hw4.trans (b5.mono (by omega))
    go_wp2_with (fail)
    have hd3 : ¬ d.size > 1 := by omega
    refine (Tryz.st (w.heap.size + 1) (w.heap.size + 1) _ _ hB5 (by omega)).mono ?_
    rintro e W9 ⟨rfl, b9⟩
    go_wp2_with (fail)
    go_ret
    exact ⟨congrArg (fun s => Ending.returned (Value.string s)) (ba_ext (by simp only [ba_app, List.append_assoc, if_neg hd3, List.nil_append, List.append_nil, List.singleton_append, List.cons_append, List.toList_toArray, if_true, Bool.false_eq_true, if_false, ByteArray.data_extract, Array.toList_extract, List.extract_eq_take_drop, List.drop_zero, Nat.sub_zero, List.drop_one])), hw5.trans (b9.mono (by omega))⟩
  ·exfalso
   rw [if_pos (by omega)] at hr
   split at hr
   ·omega
   ·cases hr
end Go.Proofs
namespace Go.Proofs.YtnkpmjhlkmlmbaaGreatDoor.Eng
open Go.RowKit Go.Proofs
theorem qol {P : Program} {M0 : Mem} {f : Nat} {F : Fun} (ok : qz P M0 f F) {w : World} (h0 : Ext M0 (qcL w)) {args : Array Value} {ls : List V} {r : F.S.R}
  (hs : args.size = F.S.ps.length) (ha : ∀ (i : Nat) (v : Value), args[i]? = some v → RV (qcL w) (fun _ => none) v (qh (Ent F.S ls).t i))
  (hr : app (qo F.S.ps) F.f ls = some r) :
  Calls P f args w fun e w' => ∃ v M' φ', e = .returned v ∧ RV M' φ' v (qbF (qm (Ent F.S ls).nx F.S.rs (F.S.un r)).1) ∧ Below w.heap.size w w' := by
 have hrel : Rel (qcL w) (fun _ => none) (qb (Ent F.S ls).O) w := by
  refine ⟨fun _ _ _ h => h, ?_, ?_, ?_⟩
  ·intro id p h; cases h
  ·intro id p h; cases h
  ·intro id id' p p' _ h; cases h
 refine (ok.call (qcL w) (fun _ => none) w args ls r h0 ⟨hrel, hs, ha, fun _ _ => rfl⟩ hr).mono fun e w' h => ?_
 obtain ⟨v, he, _, M', φ', hrv, _, hst, _⟩ := h
 exact ⟨v, M', φ', he, hrv, hst.kept.os, hst.kept.tape, hst.kept.output, hst.kept.size, fun k hk => hst.kept.block k hk fun _ => qkp⟩
theorem qaL.ok : ∀ k, qz Tryz.prog qaH 65 (qaL.F k) := fun k => by
 refine ⟨⟨Tryz.f65, qbr Tryz.f65, Tryz.func65, by kernel_rfl, by kernel_rfl⟩, rfl, rfl, fun M φ w args ls r hgl hc hr => ?_⟩
 have hlf : qc [.b, .s, .i .i64] ls = true := qa4 hr
 obtain ⟨neg, d, x, rfl⟩ : ∃ neg d x, ls = [.bool neg, .str d, .int .i64 x] := by
  match ls, hlf with
  | [a, b, c], h =>
   have h : qc [.b, .s, .i .i64] [a, b, c] = true := h
   simp only [qc, Bool.and_true, Bool.and_eq_true] at h
   obtain ⟨h1, h2, h3⟩ := h
   cases a <;> first | (cases h1; done) | skip
   cases b <;> first | (cases h2; done) | skip
   cases c <;> first | (cases h3; done) | skip
   rw [← qG h3]
   exact ⟨_, _, _, rfl⟩
  | [], h => cases h
  | [_], h => simp [qc] at h
  | [_, _], h => simp [qc] at h
  | _ :: _ :: _ :: _ :: _, h => simp [qc] at h
 have hr : qaL.f k neg d x = some r := hr
 have hargs : args = #[.agg #[.bool neg, .string d, .int .i64 x]] := by
  have hs : args.size = 1 := hc.size
  have h0 : args[0]? = some (args[0]'(by omega)) := Array.getElem?_eq_getElem _
  obtain ⟨a, e, has, hg⟩ := (show RA M φ _ (.agg [.bool neg, .str d, .int .i64 x]) from hc.args 0 _ h0)
  obtain ⟨u0, g0, r0⟩ := hg 0 _ rfl
  obtain ⟨u1, g1, r1⟩ := hg 1 _ rfl
  obtain ⟨u2, g2, r2⟩ := hg 2 _ rfl
  have e0 : u0 = .bool neg := r0
  have e1 : u1 = .string d := r1
  have e2 : u2 = .int .i64 x := r2.1
  have ea : a = #[.bool neg, .string d, .int .i64 x] := by
   apply Array.ext_getElem?
   intro i
   match i with
   | 0 => rw [g0, e0]; rfl
   | 1 => rw [g1, e1]; rfl
   | 2 => rw [g2, e2]; rfl
   | i + 3 => rw [Array.getElem?_eq_none (by rw [has]; simp), Array.getElem?_eq_none (by simp)]
  apply Array.ext_getElem?
  intro i
  cases i with
  | zero => rw [h0, e, ea]; rfl
  | succ i => rw [Array.getElem?_eq_none (by omega), Array.getElem?_eq_none (by simp)]
 have hx : -1000000 ≤ x ∧ x ≤ 1000000 := by
  have h := hr
  unfold qaL.f at h
  split at h
  ·rename_i hb; exact hb.2
  ·cases h
 have hcall := Tryz.plain_walk k neg d x r hr (by omega) (by omega) w fun it hit w1 hb1 => by
  refine (qol (qe7.ok k) (w := w1) (args := #[.int .i64 x]) (ls := [.int .i64 x]) (r := it) ?_ rfl ?_ hit).mono ?_
  ·intro b o v hv
   have h1 := hc.rel.holds b o v (hgl b o v hv)
   show w1.cell? _ = _
   rw [hb1.cell (qce h1)]
   exact h1
  ·intro i v hv
   cases i with
   | zero =>
    obtain rfl := Option.some.inj hv
    exact ⟨rfl, qcf _⟩
   | succ i => simp at hv
  ·rintro e w' ⟨v, M', φ', he, hrv, hbl⟩
   have hv : v = .string it := hrv
   exact ⟨by rw [he, hv], hbl⟩
 rw [hargs]
 refine hcall.mono fun e w' ⟨he, hb⟩ => ⟨_, he, rfl, M, φ, rfl, ?_, ?_, qs.refl φ⟩
 all_goals
  have hg := qh5 hb
  have hB : qar (qaL.F k).S (Ent (qaL.F k).S [.bool neg, .str d, .int .i64 x]).nx r = fun _ => .gone := rfl
  have hB0 : qb (Ent (qaL.F k).S [.bool neg, .str d, .int .i64 x]).O = fun _ => .gone := rfl
  rw [hB]
 ·have := hc.rel.grew hg
  rwa [hB0] at this
 ·rw [hB0]
  exact ⟨Ext.refl M, hg.kp _, fun _ _ h => .inl h, fun _ _ _ h => .inl h⟩
set_option maxRecDepth 100000
theorem qgL.ok : Fo 64 (sg [.ag [.b, .s, .i .i64], .lf (.i .i64)] [.lf (.b)]) fun _ => qgL.f := fo 13 Tryz.func64 .z
theorem qaa.ok : Fo 18 (sg [.lf (.i .u8), .lf (.i .u64)] [.lf (.s), .lf (.i .i64)]) qaa.f := fo 85 Tryz.func18 (.o qaC.ok (.o qc5.ok (.o qe6.ok (.o qgo.ok (.o qc6.ok (.o qgE.ok (.o qgL.ok (.o qaL.ok .z)))))))) [[tt, tt, tt, tt, ff, tt, ff], [tt, ff, tt, tt], [tt, tt, tt, tt, ff, tt, ff, ff, tt, ff, ff, tt, tt, ff, tt], [tt, tt, tt, tt, ff, tt, ff, ff, tt, ff, ff, tt, tt, tt]] (fun k => [⟨[(9, .bx [.b, .s, .i .i64]), (10, .cl 59 [[.i .u8], [.i .u64]]), (11, .lf (.i .i64))], qaa.l0 k⟩, ⟨[(2, .ip [.i .u8]), (3, .ip [.i .u64]), (6, .lf (.s)), (8, .lf (.i .i64)), (28, .lf (.b))], qaa.j0 k⟩, ⟨[(9, .bx [.b, .s, .i .i64]), (10, .cl 59 [[.i .u8], [.i .u64]]), (11, .lf (.i .i64)), (12, .bx [.b, .s, .i .i64]), (13, .bx [.b, .s, .i .i64]), (14, .lf (.b)), (15, .lf (.b)), (57, .lf (.b))], qaa.j3 k⟩, ⟨[(9, .bx [.b, .s, .i .i64]), (10, .cl 59 [[.i .u8], [.i .u64]]), (11, .lf (.i .i64)), (12, .bx [.b, .s, .i .i64]), (13, .bx [.b, .s, .i .i64]), (14, .lf (.b)), (15, .lf (.b))], qaa.j5 k⟩]) (frz := [2, 3])
theorem qgM.ok : Fo 97 (sg [.ag [.i .i64, .i .i64, .i .u64]] [.lf (.i .u64)]) fun _ => qgM.f := fo 10 Tryz.func97 (.o qbx.ok .z)
theorem qgN.ok : Fo 96 (sg [.lf (.i .u8), .lf (.b), .lf (.fn 97)] [.lf (.i .u64), .lf (.i .i64)]) qgN.f := fo 28 Tryz.func96 (.o qgM.ok (.o qU.ok .z))
theorem qgO.ok : Fo 42 (sg [.lf (.i .u8)] [.lf (.i .u64), .lf (.i .i64)]) qgO.f := fo 8 Tryz.func42 (.o qgN.ok .z)
theorem qgP.ok : Fo 98 (sg [.lf (.s), .lf (.i .u8)] [.lf (.i .i64)]) fun _ => qgP.f := fo 8 Tryz.func98 (.o qcN.ok .z)
theorem qbS.ok : Fo 43 (sg [.bb [.s, .i .i64], .lf (.s)] [.lf (.i .u8), .lf (.b)]) qbS.f := fo 47 Tryz.func43 (.o qgP.ok .z) [[tt, ff, tt]] fun k => [⟨[(0, .bb [.s, .i .i64]), (29, .lf (.b))], qbS.j0 k⟩]
theorem qcu.ok : Fo 100 (sg [.bb [.s, .i .i64]] [.lf (.s)]) qcu.f := fo 59 Tryz.func100 .z [[tt, tt, ff, ff]] fun k => [⟨[(0, .bb [.s, .i .i64]), (3, .lf (.i .i64))], qcu.l0 k⟩]
theorem qbA.ok : Fo 45 (sg [.bb [.s, .i .i64]] [.lf (.s), .lf (.i .i64), .lf (.b)]) qbA.f := fo 81 Tryz.func45 (.o qbS.ok (.o qcu.ok (.o qb6.ok .z))) [[tt, tt, tt, tt], [tt, tt, tt, tt, tt]] fun k => [⟨[(0, .bb [.s, .i .i64]), (5, .lf (.s)), (6, .lf (.i .i64))], qbA.j2 k⟩, ⟨[(0, .bb [.s, .i .i64]), (5, .lf (.s)), (6, .lf (.i .i64))], qbA.j6 k⟩]
theorem qc9.ok : Fo 102 (sg [.lf (.s), .lf (.i .u8)] [.lf (.s)]) qc9.f := fo 17 Tryz.func102 .z [[tt, ff, ff]] fun k => [⟨[(0, .lf (.s)), (1, .lf (.i .u8))], qc9.l0 k⟩]
theorem qda.ok : Fo 46 (sg [.lf (.s), .lf (.s)] [.lf (.s)]) qda.f := fo 37 Tryz.func46 (.o qc9.ok .z) [[tt, tt, ff, tt]] fun k => [⟨[(0, .lf (.s)), (1, .lf (.s)), (21, .lf (.b))], qda.j2 k⟩]
theorem qe8.ok : Fo 14 (sg [.lf (.i .u8), .lf (.i .u8), .lf (.s)] [.lf (.i .u64), .lf (.i .u8), .lf (.i .i64)]) qe8.f := fo 103 Tryz.func14 (.o qbi.ok (.o qgO.ok (.o qbS.ok (.o qef.ok (.o qbA.ok (.o qda.ok (.o qeg.ok (.o qM.ok (.o qej.ok .z)))))))))
theorem qdb.ok : Fo 16 (sg [] [.lf (.b)]) qdb.f := fo 33 Tryz.func16 (.o qe8.ok (.o qaa.ok .z))
theorem qek.ok : Fo 114 (sg [.lf (.i .u8)] [.lf (.i .u64)]) fun _ => qek.f := fo 5 Tryz.func114 .z
theorem qdc.ok : Fo 113 (sg [.lf (.i .u8)] [.lf (.i .i64)]) fun _ => qdc.f := fo 5 Tryz.func113 .z
theorem qcv.ok : Fo 75 (sg [.lf (.i .u8), .lf (.i .u64)] [.ag [.b, .i .i64, .i .u64]]) fun _ => qcv.f := fo 28 Tryz.func75 (.o qdc.ok (.o qek.ok .z))
theorem qel.ok : Fo 76 (sg [.lf (.i .u8)] [.lf (.i .i64)]) fun _ => qel.f := fo 5 Tryz.func76 .z
theorem qem.ok : Fo 21 (sg [.lf (.i .u8), .lf (.i .u64)] [.lf (.i .u8)]) fun _ => qem.f := fo 28 Tryz.func21 (.o qcv.ok (.o qel.ok .z))
theorem qbB.ok : Fo 66 (sg [.lf (.i .u8), .lf (.i .u64)] [.lf (.s), .lf (.b)]) qbB.f := fo 25 Tryz.func66 (.o qem.ok (.o qcv.ok .z)) [[tt, tt, tt]] fun k => [⟨[(0, .lf (.i .u8)), (1, .lf (.i .u64)), (6, .lf (.s))], qbB.j0 k⟩]
theorem qV.ok : Fo 132 (sg [.ow .u32] [.ow .u32]) qV.f := fo 21 Tryz.func132 .z [[tt, tt, ff, ff]] fun k => [⟨[(0, .ow .u32), (3, .lf (.i .i64))], qV.l0 k⟩]
theorem qV.ok1 : Fo 132 (sg [.lf (.is .u32)] [.lf (.is .u32)]) qV.f := fo 21 Tryz.func132 .z [[tt, tt, ff, ff]] fun k => [⟨[(0, .lf (.is .u32)), (3, .lf (.i .i64))], qV.l0 k⟩]
theorem qb8.ok : Fo 126 (sg [.lf (.i .u64)] [.lf (.is .u32)]) qb8.f := fo 10 Tryz.func126 (.t qV.ok qV.ok1 .z)
theorem qen.ok : Fo 127 (sg [.lf (.i .u8)] [.lf (.i .i64)]) fun _ => qen.f := fo 5 Tryz.func127 .z
theorem qeo.ok : Fo 73 (sg [.lf (.is .u32), .lf (.i .i64)] [.lf (.i .u32)]) fun _ => qeo.f := fo 23 Tryz.func73 .z
theorem qa8.ok : Fo 138 (sg [.lf (.is .u32)] [.lf (.i .i64)]) qa8.f := fo 31 Tryz.func138 (.o qeo.ok .z) [[tt, tt, ff, ff]] fun k => [⟨[(0, .lf (.is .u32)), (3, .lf (.i .i64))], qa8.l0 k⟩]
theorem qbT.ok : Fo 142 (sg [.lf (.is .u32)] [.lf (.i .i64)]) qbT.f := fo 25 Tryz.func142 .z [[tt, tt, tt, ff, tt, ff]] fun k => [⟨[(3, .lf (.i .i64)), (4, .lf (.i .u32))], qbT.l0 k⟩]
theorem qbj.ok : Fo 139 (sg [.lf (.is .u32), .lf (.i .i64)] [.lf (.is .u32), .lf (.b)]) qbj.f := fo 63 Tryz.func139 (.t qV.ok qV.ok1 (.o qa8.ok (.o qbT.ok .z))) [[tt, tt, tt, tt, tt, ff, tt, ff]] fun k => [⟨[(0, .lf (.is .u32)), (6, .lf (.b)), (7, .ow .u32), (8, .lf (.i .i64)), (9, .lf (.i .i64))], qbj.l0 k⟩]
theorem qdK.ok : Fo 79 (sg [.lf (.b), .lf (.is .u32), .lf (.i .i64)] [.ag [.b, .is .u32, .i .i64]]) qdK.f := fo 28 Tryz.func79 (.o qa8.ok (.o qbj.ok .z))
theorem qdL.ok : Fo 67 (sg [.lf (.i .u8), .lf (.i .u64)] [.ag [.b, .is .u32, .i .i64]]) qdL.f := fo 36 Tryz.func67 (.o qcv.ok (.o qdK.ok (.o qdc.ok (.o qb8.ok (.o qen.ok .z)))))
theorem qbC.ok : Fo 130 (sg [.lf (.is .u32), .lf (.i .i64)] [.lf (.is .u32)]) qbC.f := fo 45 Tryz.func130 (.t qV.ok qV.ok1 .z) [[tt, tt, tt, tt, tt, ff, tt, ff]] fun k => [⟨[(0, .lf (.is .u32)), (5, .ow .u32), (6, .lf (.i .i64)), (7, .lf (.i .u64)), (8, .lf (.i .i64))], qbC.l0 k⟩]
theorem qbD.ok : Fo 193 (sg [.lf (.is .u32), .lf (.i .u32)] [.lf (.is .u32), .lf (.is .u32)]) qbD.f := fo 43 Tryz.func193 (.o qb8.ok (.t qV.ok qV.ok1 .z)) [[tt, tt, tt, ff, tt, ff]] fun k => [⟨[(0, .lf (.is .u32)), (1, .lf (.i .u32)), (6, .ow .u32), (7, .lf (.i .u64)), (8, .lf (.i .i64))], qbD.l0 k⟩]
theorem qN.ok : Fo 134 (sg [.lf (.is .u32)] [.lf (.s)]) qN.f := fo 50 Tryz.func134 (.o qbD.ok .z) [[tt, tt, tt, ff, ff], [tt, tt, tt, ff, ff, ff, tt, ff, tt, tt, tt, tt, tt, ff], [tt, tt, tt, ff, ff, ff, tt, ff, tt, tt, tt, tt]] fun k => [⟨[(0, .lf (.is .u32)), (3, .lf (.s))], qN.l0 k⟩, ⟨[(0, .lf (.is .u32)), (3, .lf (.s)), (6, .lf (.i .u32)), (7, .lf (.i .i64))], qN.l1 k⟩, ⟨[(0, .lf (.is .u32)), (3, .lf (.s)), (6, .lf (.i .u32))], qN.j2 k⟩]
theorem qJ.ok : Fo 140 (sg [.lf (.is .u32), .lf (.is .u32)] [.lf (.is .u32)]) qJ.f := fo 85 Tryz.func140 (.t qV.ok qV.ok1 .z) [[tt, tt, tt, tt, tt, ff, tt, ff], [tt, tt, tt, tt, tt, ff, tt, ff, ff, tt, ff, ff, tt, tt, ff, tt, ff], [tt, tt, tt, tt, tt, ff, tt, ff, ff, tt, ff, ff, tt, tt]] fun k => [⟨[(0, .lf (.is .u32)), (1, .lf (.is .u32)), (5, .ow .u32), (6, .lf (.i .u64)), (7, .lf (.i .u64)), (8, .lf (.i .i64))], qJ.l0 k⟩, ⟨[(0, .lf (.is .u32)), (1, .lf (.is .u32)), (5, .ow .u32), (6, .lf (.i .u64)), (7, .lf (.i .u64)), (8, .lf (.i .i64)), (10, .lf (.i .i64))], qJ.l1 k⟩, ⟨[(0, .lf (.is .u32)), (1, .lf (.is .u32)), (5, .ow .u32), (6, .lf (.i .u64)), (7, .lf (.i .u64)), (8, .lf (.i .i64)), (9, .lf (.i .i64))], qJ.j3 k⟩]
theorem qat.ok : Fo 141 (sg [.lf (.i .u32), .lf (.i .i64)] [.lf (.is .u32)]) qat.f := fo 27 Tryz.func141 (.o qb8.ok (.o qJ.ok .z)) [[tt, tt, tt, ff, ff], [tt, tt, tt, ff, ff, ff, tt, ff, tt]] fun k => [⟨[(1, .lf (.i .i64)), (5, .lf (.is .u32)), (6, .lf (.is .u32))], qat.l0 k⟩, ⟨[(1, .lf (.i .i64)), (5, .lf (.is .u32)), (6, .lf (.is .u32))], qat.j1 k⟩]
theorem qau.ok : Fo 86 (sg [.ag [.b, .is .u32, .i .i64]] [.lf (.s)]) qau.f := fo 52 Tryz.func86 (.o qbC.ok (.o qN.ok (.o qJ.ok (.o qat.ok .z)))) [[tt, tt, tt, tt, tt, ff, ff], [tt, tt, tt]] fun k => [⟨[(1, .bx [.b, .is .u32, .i .i64]), (3, .lf (.s)), (4, .lf (.s))], qau.l0 k⟩, ⟨[(1, .bx [.b, .is .u32, .i .i64]), (3, .lf (.s))], qau.j0 k⟩]
theorem qep.ok : Fo 28 (sg [.lf (.i .u8), .lf (.i .u64)] [.lf (.s)]) qep.f := fo 19 Tryz.func28 (.o qbB.ok (.o qdL.ok (.o qau.ok .z)))
theorem qe9.ok : Fo 7 (sg [.lf (.i .u8), .lf (.i .u64)] [.lf (.b)]) qe9.f := fo 42 Tryz.func7 (.o qbg.ok (.o qdb.ok (.o q6.ok (.o qep.ok .z))))
end Go.Proofs.YtnkpmjhlkmlmbaaGreatDoor.Eng
