/- The first layer's long division. -/
import Derived.Test.YtldcelgbinenbaaQNatProductsKN16
set_option linter.unusedVariables false
set_option linter.unusedSimpArgs false
namespace Go.Proofs.Ytldcelgbinenbaa.K
open Go Go.RowKit Go.Proofs.Ytldcelgbinenbaa.Px Go.Proofs.YtldcelgbinenbaaW.PrintWords Go.Proofs.YtldcelgbinenbaaW.PrintLast Go.Proofs.YtldcelgbinenbaaW.PrintMore

theorem V_take {l : List Int} (h : Dg l) {n : Nat} (hn : n ≤ l.length) : V (l.take n) = V l % 4294967296 ^ n := by
  have e : V l = V (l.take n) + 4294967296 ^ n * V (l.drop n) := by
    conv => lhs; rw [← List.take_append_drop n l, V_append, List.length_take, Nat.min_eq_left hn]
  rw [e, Nat.add_mul_mod_self_left, Nat.mod_eq_of_lt (V_take_lt h hn)]
theorem lz_eq {x : Int} (h : 0 ≤ x ∧ x < 4294967296) : bits_LeadingZeros32.f x = some ((32 - bl x.toNat : Nat) : Int) := by
  have hb : bl x.toNat ≤ 32 := bl_le_of_lt (by omega)
  unfold bits_LeadingZeros32.f
  rw [len32_eq h]
  simp only [Option.bind_some]
  congr 1; unfold wrap64; omega
/-- room for one digit more -/
theorem long_l0 {a v : List Int} (s : Int) (ha : a.length < 10000000) {res : List Int × List Int} : ∀ (d : Nat) (u : List Int), u.length + d = a.length + 1 → v.length ≤ a.length →
    Ev (fun k => nat_long.l1 k s v (u ++ List.replicate d 0) v.length (List.replicate (a.length + 1 - v.length) 0) (((a.length + 1 - v.length : Nat) : Int) - 1)) res →
    Ev (fun k => nat_long.l0 k a s v u) res
  | 0, u, hu, hv, H => by
    refine ev_step ?_
    have e1 : wrap64 ((u.length : Int) - (v.length : Int)) = ((a.length + 1 - v.length : Nat) : Int) := by unfold wrap64; omega
    have e2 : wrap64 ((((List.replicate (a.length + 1 - v.length) (0 : Int)).length : Nat) : Int) - 1) = ((a.length + 1 - v.length : Nat) : Int) - 1 := by rw [List.length_replicate]; unfold wrap64; omega
    simp only [nat_long.l0, e1, Int.toNat_natCast, Option.bind_some, e2]
    refine ev_neg (by omega) (ev_pos nn (ev_pos (by omega) ?_))
    simpa using H
  | d + 1, u, hu, hv, H => by
    refine ev_step ?_
    simp only [nat_long.l0]
    refine ev_pos (by omega) (ev_pos (by omega) ?_)
    refine long_l0 s ha d (u ++ [0]) (by simp; omega) hv ?_
    have e : u ++ [0] ++ List.replicate d 0 = u ++ List.replicate (d + 1) 0 := by rw [List.append_assoc, List.replicate_succ]; rfl
    rw [e]; exact H
theorem div_mod_V (w p : Nat) : w = p * (w / p) + w % p := (Nat.div_add_mod w p).symm
theorem long_nat {B W Y T t R p Vu X L : Nat} (hW : W = T * (Y * (p * B)) + Vu) (hVu : Vu = p * X + L) (hX : X = Y * t + R) : W = (t + B * T) * (Y * p) + (L + p * R) := by
  rw [hW, hVu, hX, Nat.mul_add, Nat.add_mul]
  have e1 : T * (Y * (p * B)) = B * T * (Y * p) := by ac_rfl
  have e2 : p * (Y * t) = t * (Y * p) := by ac_rfl
  rw [e1, e2]; omega
def Pw (n M : Nat) : Prop := M = 4294967296 ^ n
theorem Pw.up {n M x : Nat} (hM : Pw n M) (h : x < M * 4294967296) : x < 4294967296 ^ (n + 1) := by rw [pow_s, ← hM]; exact h
theorem Pw.at {n M x : Nat} (hM : Pw n M) (h : x < M) : x < 4294967296 ^ n := by rw [← hM]; exact h
def Top (v : List Int) (m : Nat) : Prop := 4294967296 ^ (m + 1) ≤ V v
theorem Top.pos {v : List Int} {m : Nat} (h : Top v m) : 0 < V v := Nat.lt_of_lt_of_le (Nat.pow_pos (by omega)) h
theorem long_lt {R Y p L : Nat} (hR : R < Y) (hL : L < p) : L + p * R < Y * p := by
  have := Nat.mul_le_mul_left p (Nat.succ_le_of_lt hR)
  rw [Nat.mul_succ, Nat.mul_comm p Y] at this
  omega
theorem w3 {i m : Nat} (h1 : i < 100000000) (h2 : m < 100000000) : wrap64 (wrap64 ((i : Int) + ((m + 2 : Nat) : Int)) + 1) = ((i + (m + 3) : Nat) : Int) := by unfold wrap64; omega
def Inv (W T Y p Vu : Nat) : Prop := W = T * (Y * p) + Vu ∧ Vu < Y * p
theorem Inv.next {B W T Y p Vu X t R L : Nat} (h : Inv W T Y (p * B) Vu) (h1 : Vu = p * X + L) (h2 : X = Y * t + R) (h3 : R < Y) (h4 : L < p) : Inv W (t + B * T) Y p (L + p * R) :=
  ⟨long_nat h.1 h1 h2, long_lt h3 h4⟩
theorem Inv.quo {W T Y p B Vu : Nat} (h : Inv W T Y (p * B) Vu) (hp : 0 < p) : Vu / p < Y * B := by
  rw [Nat.div_lt_iff_lt_mul hp, Nat.mul_assoc, Nat.mul_comm B p]; exact h.2
theorem Inv.succ {W T Y i Vu : Nat} (h : Inv W T Y (4294967296 ^ (i + 1)) Vu) : Inv W T Y (4294967296 ^ i * 4294967296) Vu := by rw [← pow_s]; exact h
theorem Inv.end {W T Y Vu : Nat} (h : Inv W T Y (4294967296 ^ 0) Vu) (hp : 0 < Y) : W / Y = T ∧ W % Y = Vu ∧ Vu < Y := by
  obtain ⟨h1, h2⟩ := h
  rw [Nat.pow_zero, Nat.mul_one] at h1 h2
  exact ⟨by rw [h1, Nat.mul_comm, Nat.mul_add_div hp, Nat.div_eq_of_lt h2, Nat.add_zero], by rw [h1, Nat.mul_comm, Nat.mul_add_mod, Nat.mod_eq_of_lt h2], h2⟩
theorem piece_V {u : List Int} {i m N : Nat} (hu : Dg u) (lu : u.length = N) (hi : i + (m + 3) ≤ N) (hX : V u / 4294967296 ^ i < 4294967296 ^ (m + 3)) : V ((u.take (i + (m + 3))).drop i) = V u / 4294967296 ^ i ∧ V (u.drop (i + (m + 3))) = 0 := by
  have e : i + (m + 3) - i = m + 3 := Nat.add_sub_cancel_left ..
  constructor
  · rw [List.drop_take, e, V_take (hu.drop i) (by rw [List.length_drop, lu]; clear hX; omega), V_drop hu, Nat.mod_eq_of_lt hX]
  · rw [V_drop hu, Nat.pow_add, ← Nat.div_div_eq_div_mul, Nat.div_eq_of_lt hX]
theorem whole_V {u w : List Int} {i j R : Nat} (hi : i ≤ u.length) (hw : V w = R) (h0 : V (u.drop j) = 0) : V (u.take i ++ w ++ u.drop j) = V (u.take i) + 4294967296 ^ i * R := by
  rw [V_append, h0, V_append, List.length_take, Nat.min_eq_left hi, hw, Nat.mul_zero, Nat.add_zero]
theorem take_split_V {u : List Int} (hu : Dg u) {i : Nat} (hi : i ≤ u.length) : V u = 4294967296 ^ i * (V u / 4294967296 ^ i) + V (u.take i) := by rw [V_take hu hi]; exact div_mod_V _ _
theorem long_l1 {v : List Int} {m N s W : Nat} (hv : Dg v) (lv : v.length = m + 2) (hm : m < 10000000) (hN : N < 10000000) (hs : s < 1000000000) (htop : Top v m) {M : Nat} (hM : Pw (m + 2) M) (hvl : V v < M) : ∀ (i T : Nat) (u done : List Int), i + (m + 2) ≤ N → u.length = N → Dg u → Dg done → i + done.length + (m + 2) = N → V done = T → Inv W T (V v) (4294967296 ^ i) (V u) →
    Ev (fun k => nat_long.l1 k s v u ((m + 2 : Nat) : Int) (List.replicate i 0 ++ done) ((i : Int) - 1)) (D (W / V v), D (W % V v / 2 ^ s))
  | 0, T, u, done, hi, lu, hu, hdn, hdl, hT, hI => by
    obtain ⟨h1, h2, hlt⟩ := hI.end htop.pos
    have l1 : (D (V u)).length ≤ m + 2 := D_lt (hM.at (Nat.lt_trans hlt hvl))
    have l2 : (D (V u / 2 ^ s)).length ≤ m + 2 := D_lt (hM.at (Nat.lt_of_le_of_lt (Nat.div_le_self (V u) (2 ^ s)) (Nat.lt_trans hlt hvl)))
    have et : V (u.take (m + 2)) = V u := by rw [V_take hu (by omega), Nat.mod_eq_of_lt (hM.at (Nat.lt_trans hlt hvl))]
    rw [h1, h2]
    clear h1 h2 hlt hI
    refine ev_step ?_
    simp only [nat_long.l1]
    refine ev_neg (by omega) (Ev.bind (nat_trim_ev (l := List.replicate 0 0 ++ done) (by simpa using hdn) (by simp; omega)) (ev_pos nn (ev_pos (by omega) ?_)))
    refine Ev.bind (nat_trim_ev (hu.take _) (by simp; omega)) ?_
    rw [Int.toNat_natCast, et]
    refine Ev.bind (nat_down_ev (Dg_D _) (by omega) s (by omega)) ?_
    rw [V_D]
    refine Ev.bind (nat_trim_ev (Dg_D _) (by omega)) (ev_eq (Ev.now _) ?_)
    rw [V_D]; simp [hT]
  | i + 1, T, u, done, hi, lu, hu, hdn, hdl, hT, hI => by
    have hp : 0 < 4294967296 ^ i := Nat.pow_pos (Nat.zero_lt_succ _)
    have hI2 := hI.succ
    have hX := hI2.quo hp
    have hXM : V u / 4294967296 ^ i < M * 4294967296 := Nat.lt_trans hX (Nat.mul_lt_mul_of_pos_right hvl (Nat.zero_lt_succ _))
    obtain ⟨hpc, hdd⟩ := piece_V (i := i) (m := m) hu lu (by omega) (hM.up hXM)
    have hlen : ((u.take (i + (m + 3))).drop i).length = m + 3 := by rw [List.length_drop, List.length_take]; omega
    have hst := nat_step_ev (u := (u.take (i + (m + 3))).drop i) hv ((hu.take _).drop _) lv hlen (by omega) htop (by rw [hpc]; exact hX)
    rw [hpc] at hst
    have hsp := take_split_V hu (i := i) (by omega)
    have hLt : V (u.take i) < 4294967296 ^ i := V_take_lt hu (by omega)
    clear hI hp hpc
    generalize V u / 4294967296 ^ i = X at *
    have hR : X % V v < V v := Nat.mod_lt _ htop.pos
    have htB : X / V v < 4294967296 := by rw [Nat.div_lt_iff_lt_mul htop.pos, Nat.mul_comm]; exact hX
    have hdk : (Dk (m + 3) (X % V v)).length = m + 3 := Dk_len (hM.up (Nat.lt_of_le_of_lt (Nat.mod_le _ _) hXM))
    have hI3 := hI2.next hsp (div_mod_V X (V v)) hR hLt
    rw [← whole_V (u := u) (w := Dk (m + 3) (X % V v)) (by omega) (Dk_V _ _) hdd] at hI3
    clear hI2 hsp hLt hdd hX hXM hR
    have ih := long_l1 hv lv hm hN hs htop hM hvl i (X / V v + 4294967296 * T) (u.take i ++ Dk (m + 3) (X % V v) ++ u.drop (i + (m + 3))) (((X / V v : Nat) : Int) :: done) (by omega) (by simp [hdk]; omega) (((hu.take _).app (Dk_Dg _ _)).app (hu.drop _)) (Dg.cons nn (lt_cast htB) hdn) (by simp; omega) (by rw [V_cons, hT, Int.toNat_natCast]) hI3
    clear hI3 htB
    have e0 : ((i + 1 : Nat) : Int) - 1 = (i : Int) := by omega
    have e2 : wrap64 ((i : Int) - 1) = (i : Int) - 1 := w64m (by omega)
    have hat : Ev (fun k => nat_stepAt.f k u v (i : Int) ((i + (m + 3) : Nat) : Int)) (((X / V v : Nat) : Int), u.take i ++ Dk (m + 3) (X % V v) ++ u.drop (i + (m + 3))) := by
      unfold nat_stepAt.f
      simp only [Int.toNat_natCast]
      exact ev_pos nn (ev_pos (by omega) (ev_pos (by omega) (Ev.bind hst (Ev.now _))))
    have hs2 : (List.replicate (i + 1) (0 : Int) ++ done).set ((i : Int)).toNat ((X / V v : Nat) : Int) = List.replicate i 0 ++ ((X / V v : Nat) : Int) :: done := by
      rw [zeros_snoc, set_app (by simp)]; simp
    rw [e0]
    refine ev_step ?_
    simp only [nat_long.l1, w3 (i := i) (m := m) (by omega) (by omega), e2]
    clear e2 e0
    refine ev_pos (by omega) (ev_pos nn (ev_pos (by omega) (ev_pos (by omega) (Ev.bind hat (ev_pos (by simp; omega) ?_)))))
    rw [hs2]
    exact ih
end Go.Proofs.Ytldcelgbinenbaa.K
