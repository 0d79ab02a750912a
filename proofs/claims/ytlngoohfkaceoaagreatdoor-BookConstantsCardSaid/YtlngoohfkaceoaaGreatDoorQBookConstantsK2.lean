import Derived.Test.YtlngoohfkaceoaaGreatDoorQBookConstantsK1
set_option linter.unusedVariables false
set_option linter.unusedSimpArgs false
set_option maxRecDepth 100000
namespace Go.Proofs.YtlngoohfkaceoaaGreatDoor.Eng.K
open Go.RowKit Go.Proofs.YtlngoohfkaceoaaGreatDoor.Eng
theorem zbR (x2 : Bool) {n b w : Nat} (hn : 2 ≤ n) (h : b + w = NB) : ((rS x2 n NB).toNat : Int) ≤ (2 ^ w : Nat) * ((rS x2 n b).toNat + (rC n b + 2) : Nat) ∧ ((2 ^ w : Nat) : Int) * ((rS x2 n b).toNat : Nat) ≤ (rS x2 n NB).toNat + (2 ^ w : Nat) * ((rC n b + 2) : Nat) := by
 have hm : 2 ≤ n * n := by have : 2 * 2 ≤ n * n := Nat.mul_le_mul hn hn; omega
 have hp := zfw x2 (m := n * n) (W := 2 ^ w) hm (zm w) 9000 1 (2 ^ NB / n) 0 0 0 (by omega)
 have e : 2 ^ NB / n / 2 ^ w = 2 ^ b / n := by
  rw [← h, Nat.pow_add, Nat.div_div_eq_div_mul, Nat.mul_comm n, Nat.mul_comm (2 ^ b), Nat.mul_div_mul_left _ _ (zm w)]
 rw [e] at hp
 have hp2 : (rS x2 n NB - ((2 ^ w : Nat) : Int) * rS x2 n b).natAbs ≤ 0 + (rC n b + 2) * 2 ^ w := hp
 have h1 := zcE x2 n b
 have h2 := zcE x2 n NB
 obtain ⟨u, hu⟩ : ∃ u : Nat, rS x2 n b = u := ⟨_, (Int.toNat_of_nonneg h1).symm⟩
 obtain ⟨v, hv⟩ : ∃ v : Nat, rS x2 n NB = v := ⟨_, (Int.toNat_of_nonneg h2).symm⟩
 rw [hu, hv] at hp2 ⊢
 rw [Int.toNat_natCast, Int.toNat_natCast]
 generalize rC n b + 2 = c at *
 have e1 : ((2 ^ w : Nat) : Int) * ((u + c : Nat) : Int) = ((2 ^ w * u : Nat) : Int) + ((c * 2 ^ w : Nat) : Int) := by rw [← Int.natCast_mul, Nat.mul_add, Nat.mul_comm c, Int.natCast_add]
 have e2 : ((2 ^ w : Nat) : Int) * ((c : Nat) : Int) = ((c * 2 ^ w : Nat) : Int) := by rw [← Int.natCast_mul, Nat.mul_comm]
 have e3 : ((2 ^ w : Nat) : Int) * ((u : Nat) : Int) = ((2 ^ w * u : Nat) : Int) := by rw [← Int.natCast_mul]
 rw [e3] at hp2
 rw [e1, e2, e3]
 omega
theorem zbQ {A B W c : Nat} (h1 : (A : Int) ≤ (W : Int) * ((B + c : Nat) : Int)) (h2 : (W : Int) * (B : Int) ≤ (A : Int) + (W : Int) * (c : Int)) : A ≤ W * B + W * c ∧ W * B ≤ A + W * c := by
 rw [← Int.natCast_mul, Nat.mul_add] at h1
 rw [← Int.natCast_mul, ← Int.natCast_mul] at h2
 omega
theorem zfK {A B C a b c W x y z p q r : Nat} (h1 : A ≤ W * a + W * x ∧ W * a ≤ A + W * x) (h2 : B ≤ W * b + W * y ∧ W * b ≤ B + W * y) (h3 : C ≤ W * c + W * z ∧ W * c ≤ C + W * z) :
  p * A + q * B + r * C ≤ W * (p * a + q * b + r * c) + W * (p * x + q * y + r * z) ∧ W * (p * a + q * b + r * c) ≤ p * A + q * B + r * C + W * (p * x + q * y + r * z) := by
 have k : ∀ {p A a x : Nat}, A ≤ W * a + W * x → p * A ≤ W * (p * a) + W * (p * x) := fun {p A a x} h => by
  have := Nat.mul_le_mul_left p h
  rw [Nat.mul_add, Nat.mul_left_comm p W a, Nat.mul_left_comm p W x] at this
  exact this
 have k' : ∀ {p A a x : Nat}, W * a ≤ A + W * x → W * (p * a) ≤ p * A + W * (p * x) := fun {p A a x} h => by
  have := Nat.mul_le_mul_left p h
  rw [Nat.mul_add, Nat.mul_left_comm p W a, Nat.mul_left_comm p W x] at this
  exact this
 have a1 := k (p := p) h1.1
 have a2 := k (p := q) h2.1
 have a3 := k (p := r) h3.1
 have b1 := k' (p := p) h1.2
 have b2 := k' (p := q) h2.2
 have b3 := k' (p := r) h3.2
 simp only [Nat.mul_add]
 omega
theorem zhS {b w : Nat} (h : b + w = NB) : pR ≤ 2 ^ w * piR b + 2 ^ w * piH b ∧ 2 ^ w * piR b ≤ pR + 2 ^ w * piH b := by
 rw [← zhM]
 have h1 := zbR true (n := 8) (by omega) h
 have h2 := zbR true (n := 57) (by omega) h
 have h3 := zbR true (n := 239) (by omega) h
 unfold piR piH
 exact zfK (zbQ h1.1 h1.2) (zbQ h2.1 h2.2) (zbQ h3.1 h3.2)
theorem zhf {b w : Nat} (h : b + w = NB) : lR ≤ 2 ^ w * lnR b + 2 ^ w * lnH b ∧ 2 ^ w * lnR b ≤ lR + 2 ^ w * lnH b := by
 rw [← zg8]
 have h1 := zbR false (n := 31) (by omega) h
 have h2 := zbR false (n := 49) (by omega) h
 have h3 := zbR false (n := 161) (by omega) h
 unfold lnR lnH
 exact zfK (zbQ h1.1 h1.2) (zbQ h2.1 h2.2) (zbQ h3.1 h3.2)
theorem zhP {b : Nat} (h : b ≤ 8320) : piH b ≤ 2 ^ 19 := by
 have h1 := zav (n := 8) (by omega) b
 have h2 := zav (n := 57) (by omega) b
 have h3 := zav (n := 239) (by omega) b
 unfold piH; omega
theorem zhd {b : Nat} (h : b ≤ 8320) : lnH b ≤ 2 ^ 19 := by
 have h1 := zav (n := 31) (by omega) b
 have h2 := zav (n := 49) (by omega) b
 have h3 := zav (n := 161) (by omega) b
 unfold lnH; omega
theorem zdh {R s x : Nat} (h1 : 2 ^ 22 ≤ R % 2 ^ s) (h2 : R % 2 ^ s + 2 ^ 22 < 2 ^ s) (h3 : R ≤ x + 2 ^ 22) (h4 : x ≤ R + 2 ^ 22) : x / 2 ^ s = R / 2 ^ s := by
 have h5 : R = R / 2 ^ s * 2 ^ s + R % 2 ^ s := by rw [Nat.mul_comm]; exact (Nat.div_add_mod _ _).symm
 have hp := zm s
 refine (Nat.div_eq_iff hp).2 ⟨?_, ?_⟩ <;> omega
theorem zeu {R Z S h s bits : Nat} (hb : bits ≤ 8192) (hg : gOk R s bits = true) (h1 : R ≤ 2 ^ (8256 - bits) * S + 2 ^ (8256 - bits) * h) (h2 : 2 ^ (8256 - bits) * S ≤ R + 2 ^ (8256 - bits) * h) (hh : h ≤ 2 ^ 19) (hbig : 2 ^ 8319 ≤ R)
  (hz1 : Z ≤ R + 2 ^ 20) (hz2 : R ≤ Z + 2 ^ 20) : 2 * h ≤ S ∧ (S - 2 * h) / 2 ^ s = R / 2 ^ (8256 - bits) / 2 ^ s ∧ (S + 2 * h) / 2 ^ s = R / 2 ^ (8256 - bits) / 2 ^ s ∧ Z / 2 ^ (8256 - bits) / 2 ^ s = R / 2 ^ (8256 - bits) / 2 ^ s := by
 unfold gOk at hg
 rw [Bool.and_eq_true] at hg
 have g1 := Nat.le_of_ble_eq_true hg.1
 have g2 := Nat.le_of_ble_eq_true hg.2
 have hW2 : 2 ^ 64 ≤ 2 ^ (8256 - bits) := Nat.pow_le_pow_right (by omega) (by omega)
 have hbig2 : 2 ^ 63 * 2 ^ (8256 - bits) ≤ R := by
  rw [← Nat.pow_add]
  exact Nat.le_trans (Nat.pow_le_pow_right (by omega) (by omega)) hbig
 generalize 2 ^ (8256 - bits) = W at *
 clear hbig hg
 have hW : 0 < W := by omega
 have hR : R = W * (R / W) + R % W := (Nat.div_add_mod R W).symm
 have hm := Nat.mod_lt R hW
 have hZ : Z = W * (Z / W) + Z % W := (Nat.div_add_mod Z W).symm
 have hmz := Nat.mod_lt Z hW
 generalize R / W = q at *
 generalize R % W = r at *
 generalize Z / W = qz at *
 generalize Z % W = rz at *
 have c1 : q ≤ S + h := by
  have : W * q < W * (S + h + 1) := by rw [Nat.mul_add, Nat.mul_add]; omega
  have := Nat.lt_of_mul_lt_mul_left this
  omega
 have c2 : S ≤ q + h := by
  have : W * S < W * (q + h + 1) := by rw [Nat.mul_add, Nat.mul_add]; omega
  have := Nat.lt_of_mul_lt_mul_left this
  omega
 have c3 : qz ≤ q + 1 := by
  have : W * qz < W * (q + 2) := by rw [Nat.mul_add]; omega
  have := Nat.lt_of_mul_lt_mul_left this
  omega
 have c4 : q ≤ qz + 1 := by
  have : W * q < W * (qz + 2) := by rw [Nat.mul_add]; omega
  have := Nat.lt_of_mul_lt_mul_left this
  omega
 have c5 : 2 ^ 63 ≤ q := by
  have : W * 2 ^ 63 < W * (q + 1) := by rw [Nat.mul_add, Nat.mul_comm W (2 ^ 63)]; omega
  have := Nat.lt_of_mul_lt_mul_left this
  omega
 exact ⟨by omega, zdh g1 g2 (by omega) (by omega), zdh g1 g2 (by omega) (by omega), zdh g1 g2 (by omega) (by omega)⟩
theorem ze7 (s : Bool) {a : Nat} (ha : bl a ≤ 200000) {e : Int} (h1 : -1000000 ≤ e) (h2 : e ≤ 1000000) : Ev (fun k => zaB.f k s (D a) e) (mk (sv s a) e) := by
 have h := zcF s (zq a) (e := e) (by have := za1 ha; omega) (by omega) (by omega)
 rwa [V_D] at h
def six (p q : Bool × List Int × Int) : Bool × List Int × Int × Bool × List Int × Int := (p.1, p.2.1, p.2.2, q.1, q.2.1, q.2.2)
theorem zdK {n : Int} (h1 : 0 ≤ n) (h2 : n ≤ 1000000000000) : wrap64 n = n := by unfold wrap64; omega
theorem zdH {n : Nat} (h2 : n ≤ 1000000000000) : IntKind.u64.wrap (n : Int) = (n : Int) := by rw [zaJ]; omega
theorem w24 {C : Nat} (h : C ≤ 100000) : wrap64 (wrap64 (2 * (C : Int)) + 4) = ((2 * C + 4 : Nat) : Int) := by
 rw [zdK (n := 2 * (C : Int)) (by omega) (by omega), zdK (by omega) (by omega)]; omega
theorem w1s {i : Int} (h1 : 0 ≤ i) (h2 : i ≤ 1000) : wrap64 (i + 1) = i + 1 := zdK (by omega) (by omega)
theorem zbs (x2 : Bool) {b : Nat} (hb : b ≤ 8500) {l : List (Int × Int)} {i : Int} (hi : 0 ≤ i) (hl : i < (l.length : Int)) (hlen : l.length ≤ 10) {t n : Nat} (hr : rdT [.i .u64, .i .u64] l i = ((t : Int), (n : Int))) (ht : t ≤ 100) (hn : 2 ≤ n) (hn2 : n ≤ 10000)
  {x : Bool} {y : List Int} {z : Int} {x' : Bool} {y' : List Int} {z' : Int} {acc sl : Nat} (ha : bl acc ≤ 20000) (hs : sl ≤ 1000000000) {r : Bool × List Int × Int × Bool × List Int × Int}
  (ih : Ev (fun k => zW.l0 k l b x2 x y z x' y' z' (D (acc + t * (rS x2 n b).toNat)) ((sl + t * (2 * rC n b + 4) : Nat) : Int) (i + 1)) r) :
  Ev (fun k => zW.l0 k l b x2 x y z x' y' z' (D acc) (sl : Int) i) r := by
 have hC := zav hn b
 have hS := ze8 x2 hn b
 have hSb : bl (rS x2 n b).toNat ≤ b + 1 := by have := zT hS; rwa [zbv] at this
 have hse := zih x2 hn hn2 hb
 clear hS
 generalize rC n b = C at *
 generalize (rS x2 n b).toNat = T at *
 refine ze ?_
 simp only [zW.l0]
 rw [hr]
 dsimp only
 have htb : bl t ≤ 64 := zaY (by omega)
 have hm := zcW t T
 have hCt : t * (2 * C + 4) ≤ 100 * (2 * 8500 + 4) := Nat.mul_le_mul ht (by omega)
 have e1 := w24 (C := C) (by omega)
 have e2 := zdH (n := 2 * C + 4) (by omega)
 have e3 : IntKind.u64.wrap ((t : Int) * ((2 * C + 4 : Nat) : Int)) = ((t * (2 * C + 4) : Nat) : Int) := by rw [← Int.natCast_mul]; exact zdH (Nat.le_trans hCt (by omega))
 have e4 : IntKind.u64.wrap ((sl : Int) + ((t * (2 * C + 4) : Nat) : Int)) = ((sl + t * (2 * C + 4) : Nat) : Int) := by rw [← Int.natCast_add]; exact zdH (Nat.le_trans (Nat.add_le_add hs hCt) (by omega))
 have e5 := w1s (i := i) hi (by omega)
 refine zd hl (zd hi (zd hl (Ev.bind hse ?_)))
 dsimp only
 rw [e1, e2, e3, e4, e5]
 clear e1 e2 e3 e4 e5
 exact zd hi (zd hl (Ev.bind (rOf (by omega)) (Ev.bind (zhU (by omega) (by omega)) (Ev.bind (zcD (by omega) (by omega)) (zd hi (zd hl ih))))))
theorem zeb {x2 : Bool} {b : Nat} (hb : b ≤ 8500) {l : List (Int × Int)} {i : Int} (hl : i = (l.length : Int)) {x : Bool} {y : List Int} {z : Int} {x' : Bool} {y' : List Int} {z' : Int} {S sl : Nat} (ha : bl S ≤ 20000) (hs : sl ≤ 1000000000) (hS : sl ≤ S) :
  Ev (fun k => zW.l0 k l b x2 x y z x' y' z' (D S) (sl : Int) i) (six (mk ((S - sl : Nat) : Int) (-(b : Int))) (mk ((S + sl : Nat) : Int) (-(b : Int)))) := by
 refine ze ?_
 simp only [zW.l0]
 rw [zfV (a := (b : Int)) (by omega) (by omega)]
 have h64 : bl sl ≤ 64 := zaY (by omega)
 have h1 : bl (S - sl) ≤ 20000 := Nat.le_trans (zT (by omega)) ha
 have h2 := zbd S sl
 have f1 := ze7 false (a := S - sl) (by omega) (e := -(b : Int)) (by omega) (by omega)
 have f2 := ze7 false (a := S + sl) (by omega) (e := -(b : Int)) (by omega) (by omega)
 rw [zfG] at f1 f2
 exact zf (by omega) (Ev.bind (rOf (by omega)) (Ev.bind (zdn (by omega) hS) (Ev.bind f1 (Ev.bind (rOf (by omega)) (Ev.bind (zcD (by omega) (by omega)) (Ev.bind f2 (Ev.now _)))))))
theorem ziG {x2 : Bool} {n b : Nat} (hn : 2 ≤ n) : bl (rS x2 n b).toNat ≤ b + 1 := by have := zT (ze8 x2 hn b); rwa [zbv] at this
theorem zbM {t n b : Nat} {x2 : Bool} (hn : 2 ≤ n) (ht : t ≤ 100) : bl (t * (rS x2 n b).toNat) ≤ b + 8 := by
 have h1 := zcW t (rS x2 n b).toNat
 have h2 := ziG (x2 := x2) (b := b) hn
 have h3 : bl t ≤ 7 := zac (by omega)
 omega
theorem zgm {b : Nat} (hb : b ≤ 8320) (hS : 2 * piH b ≤ piR b) : Ev (fun k => zW.f k [(24, 8), (8, 57), (4, 239)] b true) (six (mk ((piR b - 2 * piH b : Nat) : Int) (-(b : Int))) (mk ((piR b + 2 * piH b : Nat) : Int) (-(b : Int)))) := by
 have m1 := zbM (t := 24) (n := 8) (b := b) (x2 := true) (by omega) (by omega)
 have m2 := zbM (t := 8) (n := 57) (b := b) (x2 := true) (by omega) (by omega)
 have m3 := zbM (t := 4) (n := 239) (b := b) (x2 := true) (by omega) (by omega)
 have a1 := zbd (24 * (rS true 8 b).toNat) (8 * (rS true 57 b).toNat)
 have a2 := zbd (24 * (rS true 8 b).toNat + 8 * (rS true 57 b).toNat) (4 * (rS true 239 b).toNat)
 have c1 := zav (n := 8) (by omega) b
 have c2 := zav (n := 57) (by omega) b
 have c3 := zav (n := 239) (by omega) b
 have eS : 2 * piH b = 24 * (2 * rC 8 b + 4) + 8 * (2 * rC 57 b + 4) + 4 * (2 * rC 239 b + 4) := by unfold piH; omega
 have hb0 : bl 0 ≤ 20000 := by decide
 rw [eS] at hS ⊢
 unfold piR at hS ⊢
 unfold zW.f
 have ed : D 0 = [] := zv
 rw [← ed]
 refine zbs true (by omega) (l := [(24, 8), (8, 57), (4, 239)]) (i := 0) (t := 24) (n := 8) (acc := 0) (sl := 0) (by omega) (by decide) (by decide) rfl (by omega) (by omega) (by omega) hb0 (by omega) ?_
 rw [Nat.zero_add, Nat.zero_add]
 refine zbs true (by omega) (l := [(24, 8), (8, 57), (4, 239)]) (i := 1) (t := 8) (n := 57) (by omega) (by decide) (by decide) rfl (by omega) (by omega) (by omega) (by omega) (by omega) ?_
 refine zbs true (by omega) (l := [(24, 8), (8, 57), (4, 239)]) (i := 2) (t := 4) (n := 239) (by omega) (by decide) (by decide) rfl (by omega) (by omega) (by omega) (by omega) (by omega) ?_
 exact zeb (by omega) rfl (by omega) (by omega) hS
theorem zgl {b : Nat} (hb : b ≤ 8320) (hS : 2 * lnH b ≤ lnR b) : Ev (fun k => zW.f k [(14, 31), (10, 49), (6, 161)] b false) (six (mk ((lnR b - 2 * lnH b : Nat) : Int) (-(b : Int))) (mk ((lnR b + 2 * lnH b : Nat) : Int) (-(b : Int)))) := by
 have m1 := zbM (t := 14) (n := 31) (b := b) (x2 := false) (by omega) (by omega)
 have m2 := zbM (t := 10) (n := 49) (b := b) (x2 := false) (by omega) (by omega)
 have m3 := zbM (t := 6) (n := 161) (b := b) (x2 := false) (by omega) (by omega)
 have a1 := zbd (14 * (rS false 31 b).toNat) (10 * (rS false 49 b).toNat)
 have a2 := zbd (14 * (rS false 31 b).toNat + 10 * (rS false 49 b).toNat) (6 * (rS false 161 b).toNat)
 have c1 := zav (n := 31) (by omega) b
 have c2 := zav (n := 49) (by omega) b
 have c3 := zav (n := 161) (by omega) b
 have eS : 2 * lnH b = 14 * (2 * rC 31 b + 4) + 10 * (2 * rC 49 b + 4) + 6 * (2 * rC 161 b + 4) := by unfold lnH; omega
 have hb0 : bl 0 ≤ 20000 := by decide
 rw [eS] at hS ⊢
 unfold lnR at hS ⊢
 unfold zW.f
 have ed : D 0 = [] := zv
 rw [← ed]
 refine zbs false (by omega) (l := [(14, 31), (10, 49), (6, 161)]) (i := 0) (t := 14) (n := 31) (acc := 0) (sl := 0) (by omega) (by decide) (by decide) rfl (by omega) (by omega) (by omega) hb0 (by omega) ?_
 rw [Nat.zero_add, Nat.zero_add]
 refine zbs false (by omega) (l := [(14, 31), (10, 49), (6, 161)]) (i := 1) (t := 10) (n := 49) (by omega) (by decide) (by decide) rfl (by omega) (by omega) (by omega) (by omega) (by omega) ?_
 refine zbs false (by omega) (l := [(14, 31), (10, 49), (6, 161)]) (i := 2) (t := 6) (n := 161) (by omega) (by decide) (by decide) rfl (by omega) (by omega) (by omega) (by omega) (by omega) ?_
 exact zeb (by omega) rfl (by omega) (by omega) hS
theorem zes {x c s bits : Nat} {e : Int} (hc : bl c = bits) (hb : 1 ≤ bits) (h : x / 2 ^ s = c) : zt (x : Int) e bits = mk (c : Int) (e + (s : Int)) := by
 have h1 := zam x s
 rw [h, hc] at h1
 unfold zt
 rw [Int.natAbs_natCast, decide_eq_false (by omega), show bl x - bits = s by omega, h]
 rfl
theorem zfg {l : List (Int × Int)} {x2 : Bool} {bits lo hi s c : Nat} (h1 : 1 ≤ bits) (h2 : bits ≤ 8192) (hc : bl c = bits) (hlo : lo / 2 ^ s = c) (hhi : hi / 2 ^ s = c) (hs : s ≤ 100)
  (hbet : Ev (fun k => zW.f k l ((bits + 64 : Nat) : Int) x2) (six (mk (lo : Int) (-((bits + 64 : Nat) : Int))) (mk (hi : Int) (-((bits + 64 : Nat) : Int))))) :
  Ev (fun k => zar.f k l (bits : Int) x2) (mk (c : Int) (-((bits + 64 : Nat) : Int) + (s : Int))) := by
 have hc0 : c ≠ 0 := by intro e; rw [e, zb2] at hc; omega
 have bnd : ∀ {x : Nat}, x / 2 ^ s = c → x ≠ 0 ∧ bl x ≤ 10000 := fun {x} h => by
  refine ⟨fun e => hc0 (by rw [← h, e, Nat.zero_div]), ?_⟩
  have := zam x s
  rw [h, hc] at this; omega
 obtain ⟨l0, l1⟩ := bnd hlo
 obtain ⟨g0, g1⟩ := bnd hhi
 have k1 := ze6 (z := (lo : Int)) (by omega) (e := -((bits + 64 : Nat) : Int)) (by rw [Int.natAbs_natCast]; omega) (by omega) (by omega) bits (by omega)
 have k2 := ze6 (z := (hi : Int)) (by omega) (e := -((bits + 64 : Nat) : Int)) (by rw [Int.natAbs_natCast]; omega) (by omega) (by omega) bits (by omega)
 have d1 := zes (x := lo) (e := -((bits + 64 : Nat) : Int)) hc h1 hlo
 have d2 := zes (x := hi) (e := -((bits + 64 : Nat) : Int)) hc h1 hhi
 unfold zt at d1 d2
 rw [d1] at k1
 rw [d2] at k2
 have sm := zcd (c : Int) (-((bits + 64 : Nat) : Int) + (s : Int)) (c : Int) (-((bits + 64 : Nat) : Int) + (s : Int)) (by rw [Int.natAbs_natCast]; omega)
 rw [decide_eq_true rfl] at sm
 unfold zar.f
 refine ze ?_
 simp only [zar.l0]
 have ew : wrap64 ((bits : Int) + 64) = ((bits + 64 : Nat) : Int) := by unfold wrap64; omega
 rw [ew]
 clear ew
 exact Ev.bind hbet (Ev.bind k1 (Ev.bind k2 (Ev.bind sm (zd rfl (Ev.now _)))))
theorem zeC : ∀ (k : Nat) (a : List Int) (b : Int) (c d : List Int) (e f : Int), zat.l0 k a b c d e f = zR.l0 k a b c d e f
 | 0, _, _, _, _, _, _ => rfl
 | k + 1, a, b, c, d, e, f => by simp only [zat.l0, zR.l0, zeC k]
theorem zgK (k : Nat) (a : List Int) (n : Int) : zat.f k a n = zR.f k a n := by simp only [zat.f, zR.f, zeC]
theorem zf5 (k : Nat) (a : List Int) (n : Int) : zbP.f k a n = zC.f k a n := by simp only [zbP.f, zC.f, zgK]
theorem zf2 (k : Nat) (s : Bool) (a : List Int) (n : Int) : zbG.f k s a n = zz.f k s a n := by simp only [zbG.f, zz.f, zf5]
theorem zhG (s : Bool) (a : List Int) (n : Int) : zb7.f s a n = zaI.f s a n := rfl
theorem zgD (k : Nat) (s : Bool) (a : List Int) (n m : Int) : zbI.f k s a n m = za0.f k s a n m := by simp only [zbI.f, za0.f, zf2, zhG]
theorem zfY (k : Nat) (s : Bool) (a : List Int) (n m : Int) : zbF.f k s a n m = zag.f k s a n m := by simp only [zbF.f, zag.f, zgD]
theorem zf4 (k : Nat) (d s z : Int) (p0 : Bool) (p1 : List Int) (p2 : Int) (q0 : Bool) (q1 : List Int) (q2 n : Int) : zbx.f k d s z p0 p1 p2 q0 q1 q2 n = zaL.f k d s z p0 p1 p2 q0 q1 q2 n := by simp only [zbx.f, zaL.f, zfY]
theorem gAt {R s : Nat} (h : (List.range 8192).all (fun i => gOk R s (i + 1)) = true) {b : Nat} (h1 : 1 ≤ b) (h2 : b ≤ 8192) : gOk R s b = true := by
 have h := List.all_eq_true.1 h (b - 1) (List.mem_range.2 (by omega))
 have e : b - 1 + 1 = b := by omega
 rwa [e] at h
theorem zei {a b c d : Nat} (h : (Nat.ble a b && Nat.ble c d) = true) : a ≤ b ∧ c ≤ d := by
 rw [Bool.and_eq_true] at h
 exact ⟨Nat.le_of_ble_eq_true h.1, Nat.le_of_ble_eq_true h.2⟩
attribute [local irreducible] pL pR pC piR piH in
theorem zh2 {b : Nat} (h1 : 1 ≤ b) (h2 : b ≤ 8192) : Ev (fun k => zbE.f k (b : Int)) (mk (pC b : Nat) (2 - (b : Int))) := by
 have hw : (b + 64) + (8256 - b) = NB := by show _ = 8320; omega
 have hp := zhS hw
 have hn := zei zhN
 obtain ⟨c1, c2, c3, c4⟩ := zeu h2 (gAt pG h1 h2) hp.1 hp.2 (zhP (b := b + 64) (by omega)) zhL hn.1 hn.2
 have ec : pL / 2 ^ (8256 - b) / 2 ^ 66 = pC b := by
  unfold pC
  rw [Nat.div_div_eq_div_mul, ← Nat.pow_add, show 8256 - b + 66 = 8322 - b by omega]
 rw [← c4, ec] at c2 c3
 have hr := zfg h1 h2 (zhH (by omega)) c2 c3 (by omega) (zgm (b := b + 64) (by omega) c1)
 have e2 : -((b + 64 : Nat) : Int) + ((66 : Nat) : Int) = 2 - (b : Int) := by omega
 rw [e2] at hr
 unfold zbE.f
 exact Ev.bind hr (Ev.now _)
attribute [local irreducible] lL lR lC lnR lnH in
theorem zh1 {b : Nat} (h1 : 1 ≤ b) (h2 : b ≤ 8192) : Ev (fun k => zbD.f k (b : Int)) (mk (lC b : Nat) (-(b : Int))) := by
 have hw : (b + 64) + (8256 - b) = NB := by show _ = 8320; omega
 have hp := zhf hw
 have hn := zei zg9
 obtain ⟨c1, c2, c3, c4⟩ := zeu h2 (gAt lG h1 h2) hp.1 hp.2 (zhd (b := b + 64) (by omega)) zg7 hn.1 hn.2
 have ec : lL / 2 ^ (8256 - b) / 2 ^ 64 = lC b := by
  unfold lC
  rw [Nat.div_div_eq_div_mul, ← Nat.pow_add, show 8256 - b + 64 = 8320 - b by omega]
 rw [← c4, ec] at c2 c3
 have hr := zfg h1 h2 (zg5 (by omega)) c2 c3 (by omega) (zgl (b := b + 64) (by omega) c1)
 have e2 : -((b + 64 : Nat) : Int) + ((64 : Nat) : Int) = -(b : Int) := by omega
 rw [e2] at hr
 unfold zbD.f
 exact Ev.bind hr (Ev.now _)
theorem ze3 {x d s z : Int} {p0 : Bool} {p1 : List Int} {p2 : Int} {q0 : Bool} {q1 : List Int} {q2 x4 : Int} {v0 : Bool} {v2 : Int} {r : Bool}
  (fin : Ev (fun k => zD.l0 k x d s z p0 p1 p2 q0 q1 q2 (wrap64 (x4 + 1))) r) : ∀ (m i : Nat) (l : List Int), l.length < 1000000 → i + m = l.length →
   Ev (fun k => zD.l1 k x d s z p0 p1 p2 q0 q1 q2 x4 v0 l v2 (i : Int)) r
 | 0, i, l, hl, h => by
  refine ze ?_
  simp only [zD.l1]
  exact zf (by omega) fin
 | m + 1, i, l, hl, h => by
  refine ze ?_
  simp only [zD.l1]
  rw [zw (by omega)]
  exact zd (by omega) (zd (by omega) (zd (by omega) (ze3 fin m (i + 1) _ (by rw [List.length_set]; exact hl) (by rw [List.length_set]; omega))))
theorem zgA (z e : Int) (b : Nat) (h : bl z.natAbs ≤ 30000) : (zt z e b).2.1.length < 1000000 := by
 obtain ⟨a, c, h1, h2⟩ := zer z e b
 rw [h1]
 have := zbL a c
 omega
attribute [local irreducible] pZ lZ pT lT zt pC lC in
theorem zfN {x : Int} {d s z : Int} {p0 : Bool} {p1 : List Int} {p2 : Int} {q0 : Bool} {q1 : List Int} {q2 : Int} {x4 : Int} (h4 : x4 < 2)
  (hp : Ev (fun k => zaL.f k d s z p0 p1 p2 q0 q1 q2 x) (wb (bkA pZ x)))
  (fin : Ev (fun k => zD.l0 k x 1 0 0 pT.1 pT.2.1 pT.2.2 lT.1 lT.2.1 lT.2.2 (wrap64 (x4 + 1))) true) :
  Ev (fun k => zD.l0 k x d s z p0 p1 p2 q0 q1 q2 x4) true := by
 refine ze ?_
 simp only [zD.l0, zf4]
 have hl := zeK x
 refine zd h4 ?_
 by_cases c : 1 ≤ x ∧ x ≤ 8192
 ·obtain ⟨n, rfl⟩ : ∃ n : Nat, x = n := ⟨x.toNat, by omega⟩
  rw [zgp _ (by omega) (by omega)] at hp hl
  have r1 := zh2 (b := n) (by omega) (by omega)
  have r2 := zh1 (b := n) (by omega) (by omega)
  rw [← zhQ (by omega) (by omega)] at r1
  rw [← zhe (by omega) (by omega)] at r2
  have s1 := zfp pZ nE n (by rw [zcc]; omega)
  have s2 := zfp lZ nE n (by rw [zcu]; omega)
  have hsh := zgA pZ nE n (by rw [zcc]; omega)
  have ov := ze3 (x := (n : Int)) (v0 := (zt pZ nE n).1) (v2 := (zt pZ nE n).2.2) fin (zt pZ nE n).2.1.length 0 (zt pZ nE n).2.1 hsh (by omega)
  refine Ev.bind hp (Ev.bind hl (zj (zic c) (zf (by simp) (Ev.bind r1 (Ev.bind s1 (zf (by simp) (zf (fun h => h rfl) (Ev.bind r2 (Ev.bind s2 (zf (by simp) (zf (fun h => h rfl) ov)))))))))))
 ·have hb : ∀ Z, ∃ e : Int, e ≠ 0 ∧ za6.f x = some e ∧ bkA Z x = (false, [], 0, e) := by
   intro Z
   rw [zfh]
   unfold bkA
   by_cases c1 : x < 1
   ·exact ⟨2, by omega, by rw [if_pos c1], by rw [if_pos c1]⟩
   ·exact ⟨3, by omega, by rw [if_neg c1, if_pos (by omega)], by rw [if_neg c1, if_pos (by omega)]⟩
  obtain ⟨e, e1, e2, e3⟩ := hb pZ
  obtain ⟨e', e1', e2', e3'⟩ := hb lZ
  have ee : e' = e := by rw [e2] at e2'; exact (Option.some.inj e2').symm
  subst ee
  rw [e3] at hp
  rw [e3'] at hl
  have s1 := zcd 0 0 0 0 (by decide)
  rw [decide_eq_true rfl] at s1
  refine Ev.bind hp (Ev.bind hl (zj e2 (zd e1 (Ev.bind s1 (zf (by simp) (zf (fun h => h rfl) (Ev.bind s1 (zf (by simp) (zf (fun h => h rfl) fin)))))))))
theorem zfX (x : Int) : Ev (fun k => zD.f k x) true := by
 unfold zD.f
 refine zj (a := (0, 0, 0, false, [], 0, false, [], 0)) rfl ?_
 have e1 : wrap64 ((0 : Int) + 1) = 1 := by decide
 have e2 : wrap64 ((1 : Int) + 1) = 2 := by decide
 refine zfN (by omega) (ze5 x) ?_
 rw [e1]
 refine zfN (by omega) (zhR x) ?_
 rw [e2]
 refine ze ?_
 simp only [zD.l0]
 exact zf (by omega) (Ev.bind zg4 (Ev.now _))
end Go.Proofs.YtlngoohfkaceoaaGreatDoor.Eng.K
