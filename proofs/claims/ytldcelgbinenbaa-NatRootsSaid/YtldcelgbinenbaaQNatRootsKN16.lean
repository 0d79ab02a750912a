/- The first layer's long division: a digit of the quotient. -/
import Derived.Test.YtldcelgbinenbaaQNatRootsKN15
set_option linter.unusedVariables false
set_option linter.unusedSimpArgs false
namespace Go.Proofs.Ytldcelgbinenbaa.K
open Go Go.RowKit Go.Proofs.Ytldcelgbinenbaa.Px Go.Proofs.YtldcelgbinenbaaW.PrintWords Go.Proofs.YtldcelgbinenbaaW.PrintLast Go.Proofs.YtldcelgbinenbaaW.PrintMore

theorem V_inj : ∀ (a b : List Int), Dg a → Dg b → a.length = b.length → V a = V b → a = b
  | [], [], _, _, _, _ => rfl
  | [], y :: b, _, _, h, _ => by simp at h
  | x :: a, [], _, _, h, _ => by simp at h
  | x :: a, y :: b, ha, hb, h, e => by
    have h1 := ha.head; have h2 := hb.head
    simp only [V_cons] at e
    have h3 : x = y := by omega
    subst h3
    rw [V_inj a b ha.tail hb.tail (by simpa using h) (by omega)]
/-- n's digits, k of them -/
def Dk (k n : Nat) : List Int := D n ++ List.replicate (k - (D n).length) 0
theorem Dk_V (k n : Nat) : V (Dk k n) = n := by unfold Dk; rw [V_append, V_zeros, V_D]; simp
theorem Dk_Dg (k n : Nat) : Dg (Dk k n) := (Dg_D n).app (Dg.zeros _)
theorem Dk_len {k n : Nat} (h : n < 4294967296 ^ k) : (Dk k n).length = k := by
  have := D_lt h
  unfold Dk; simp; omega
theorem Dk_eq {k n : Nat} {l : List Int} (h : Dg l) (hl : l.length = k) (hv : V l = n) : l = Dk k n := by
  have hk : n < 4294967296 ^ k := by rw [← hv, ← hl]; exact V_lt h
  exact V_inj _ _ h (Dk_Dg k n) (by rw [hl, Dk_len hk]) (by rw [hv, Dk_V])
theorem bw_int {X Y : Nat} : (if (X : Int) < (Y : Int) then (1 : Int) else 0) = ((bw X Y : Nat) : Int) := by
  unfold bw; split <;> split <;> omega
theorem step_l1 (Vl : List Int) (hV : Dg Vl) (hl : Vl.length < 1000000000) (G : Nat) (hG : G < 4294967296) : ∀ (v pv done u : List Int) (c b : Nat), Vl = pv ++ v → done.length = pv.length → Dg done → u.length = v.length + 1 → Dg u → c < 4294967296 → b ≤ 1 → ((msRec G v u c b).2 ≠ 0 → 0 < G) →
    Ev (fun k => nat_step.l1 k (done ++ u) Vl Vl.length G b c Vl Vl.length pv.length) (if (msRec G v u c b).2 = 0 then ((G : Int), done ++ (msRec G v u c b).1) else (((G - 1 : Nat) : Int), abRec Vl (done ++ (msRec G v u c b).1) 0))
  | [], pv, done, u, c, b, he, hd, hdg, hlu, hu, hc, hb, hG0 => by
    have hlen : Vl.length = pv.length := by rw [he]; simp
    have hms := msRec_V hG [] u c b Dg.nil hu hlu hc hb
    obtain ⟨x, rfl⟩ := List.length_eq_one_iff.1 (show u.length = 1 by simpa using hlu)
    have hx := hu.head
    obtain ⟨X, rfl⟩ := Int.eq_ofNat_of_zero_le hx.1
    have e0 : (c : Int) % 4294967296 = (c : Int) := by omega
    have e1 : (X : Int) - (c : Int) - (b : Int) = (X : Int) - (c : Int) - (b : Int) := rfl
    have e2 : (G : Int) % 4294967296 = (G : Int) := by omega
    refine ev_step ?_
    simp only [nat_step.l1, e0]
    refine ev_neg (by omega) (ev_pos nn (ev_pos (by simp; omega) ?_))
    rw [rd_app (xs := done) (ys := []) (y := (X : Int)) (by omega)]
    refine ev_bind (sub32_eq hx (by omega) (by omega)) ?_
    rw [set_app (by omega), ← Int.natCast_add, bw_int]
    simp only [Option.bind_some, e2]
    have hm : msRec G [] [(X : Int)] c b = ([((X : Int) - (c : Int) - (b : Int)) % 4294967296], bw X (c + b)) := by simp [msRec]
    rw [hm] at hms hG0 ⊢
    have hap : done ++ [((X : Int) - (c : Int) - (b : Int)) % 4294967296] ++ [] = done ++ [((X : Int) - (c : Int) - (b : Int)) % 4294967296] := List.append_nil _
    rw [hap]
    by_cases h0 : bw X (c + b) = 0
    · simp only [h0]
      exact ev_pos (by simp) (ev_eq (Ev.now _) (by simp))
    · simp only [if_neg h0]
      refine ev_neg (by omega) ?_
      have := step_l2 Vl hV hl G (hG0 h0) (by omega) Vl [] [] (done ++ [((X : Int) - (c : Int) - (b : Int)) % 4294967296]) 0 rfl rfl (by simp; omega) (hdg.app hms.2.1) (by omega)
      simpa using this
  | d :: v, pv, done, u, c, b, he, hd, hdg, hlu, hu, hc, hb, hG0 => by
    have hlen : Vl.length = pv.length + 1 + v.length := by rw [he]; simp; omega
    obtain ⟨x, u, rfl⟩ := List.exists_cons_of_ne_nil (show u ≠ [] by intro e; rw [e] at hlu; simp at hlu)
    have hx := hu.head
    have hdd : 0 ≤ d ∧ d < 4294967296 := by rw [he] at hV; exact hV.right.head
    obtain ⟨X, rfl⟩ := Int.eq_ofNat_of_zero_le hx.1
    obtain ⟨Y, rfl⟩ := Int.eq_ofNat_of_zero_le hdd.1
    have hcl := carry_lt (d := Y) hG (by omega) hc
    have hm64 := mul_lt64 (a := G) (b := Y) hG (by omega)
    have h1 : rd Vl (pv.length : Int) = (Y : Int) := by rw [he]; exact rd_app rfl
    have h2 : rd (done ++ (X : Int) :: u) (pv.length : Int) = (X : Int) := rd_app (by omega)
    have e5 : IntKind.u64.wrap ((c : Int) + (IntKind.u64.wrap ((G : Int) * (IntKind.u64.wrap (Y : Int))))) = ((c + G * Y : Nat) : Int) := by
      rw [u64_n (n := Y) (by omega), ← Int.natCast_mul, u64_n (by omega), ← Int.natCast_add]
      exact u64_n (by omega)
    have e6 : ((c + G * Y : Nat) : Int) % 4294967296 = (((c + G * Y) % 4294967296 : Nat) : Int) := by generalize c + G * Y = t; omega
    have e7 : ((c + G * Y : Nat) : Int) / 4294967296 = (((c + G * Y) / 4294967296 : Nat) : Int) := by generalize c + G * Y = t; omega
    refine ev_step ?_
    simp only [nat_step.l1, h1, h2, e5, e6, e7, w64s (n := pv.length) (by omega)]
    refine ev_pos (by omega) (ev_pos nn (ev_pos (by omega) (ev_pos (by simp; omega) (ev_bind (sub32_eq hx (by omega) (by omega)) ?_))))
    rw [set_app (by omega), ← Int.natCast_add, bw_int]
    have hbd : 0 ≤ ((X : Int) - (((c + G * Y) % 4294967296 : Nat) : Int) - (b : Int)) % 4294967296 ∧ ((X : Int) - (((c + G * Y) % 4294967296 : Nat) : Int) - (b : Int)) % 4294967296 < 4294967296 := by omega
    have := step_l1 Vl hV hl G hG v (pv ++ [(Y : Int)]) (done ++ [((X : Int) - (((c + G * Y) % 4294967296 : Nat) : Int) - (b : Int)) % 4294967296]) u ((c + G * Y) / 4294967296) (bw X ((c + G * Y) % 4294967296 + b)) (by rw [he]; simp) (by simp [hd]) (hdg.app (Dg.cons hbd.1 hbd.2 Dg.nil)) (by simpa using hlu) hu.tail hcl (bw_le _ _) (by simpa [msRec] using hG0)
    rw [List.length_append, List.length_singleton] at this
    refine ev_eq this ?_
    simp only [msRec, Int.toNat_natCast, List.append_assoc, List.singleton_append]
    rfl
theorem top_le (T U2 P w : Nat) : T * (P * 4294967296) ≤ (T * 4294967296 + U2) * P + w := by
  rw [Nat.mul_comm P, ← Nat.mul_assoc, Nat.add_mul, Nat.add_assoc]; exact Nat.le_add_right _ _
theorem dm1 (Q a b c : Nat) : Q * a * c ≤ Q * (a * c + b) := by rw [Nat.mul_add, ← Nat.mul_assoc]; exact Nat.le_add_right _ _
theorem tdiv_n (a b : Nat) : Int.tdiv (a : Int) (b : Int) = ((a / b : Nat) : Int) := rfl
theorem tmod_n (a b : Nat) : Int.tmod (a : Int) (b : Int) = ((a % b : Nat) : Int) := rfl
theorem split2 {v : List Int} {n : Nat} (h : v.length = n + 2) : ∃ vl v2 v1, v = vl ++ [v2, v1] ∧ vl.length = n := by
  rcases List.eq_nil_or_concat v with rfl | ⟨a, d, rfl⟩
  · simp at h
  rcases List.eq_nil_or_concat a with rfl | ⟨b, e, rfl⟩
  · simp at h
  exact ⟨b, e, d, by simp, by simp at h; omega⟩
theorem split3 {u : List Int} {n : Nat} (h : u.length = n + 3) : ∃ ul u2 u1 u0, u = ul ++ [u2, u1, u0] ∧ ul.length = n := by
  rcases List.eq_nil_or_concat u with rfl | ⟨a, d, rfl⟩
  · simp at h
  obtain ⟨ul, u2, u1, rfl, h2⟩ := split2 (v := a) (n := n) (by simp at h; omega)
  exact ⟨ul, u2, u1, d, by simp, h2⟩
theorem rd_at {l : List Int} {n : Nat} {pre post : List Int} {y : Int} (h : l = pre ++ y :: post) (hn : pre.length = n) : rd l (n : Int) = y := by
  rw [h]; exact rd_app (by omega)
theorem nat_step_ev {u v : List Int} {m : Nat} (hv : Dg v) (hu : Dg u) (lv : v.length = m + 2) (lu : u.length = m + 3) (hm : m < 100000000) (htop : 4294967296 ^ (m + 1) ≤ V v) (hlt : V u < V v * 4294967296) :
    Ev (fun k => nat_step.f k u v) (((V u / V v : Nat) : Int), Dk (m + 3) (V u % V v)) := by
  obtain ⟨vl, v2, v1, rfl, lvl⟩ := split2 lv
  obtain ⟨ul, u2, u1, u0, rfl, lul⟩ := split3 lu
  have d2 := hv v2 (by simp); have d1 := hv v1 (by simp)
  have c2 := hu u2 (by simp); have c1 := hu u1 (by simp); have c0 := hu u0 (by simp)
  obtain ⟨V1, rfl⟩ := Int.eq_ofNat_of_zero_le d1.1
  obtain ⟨V2, rfl⟩ := Int.eq_ofNat_of_zero_le d2.1
  obtain ⟨U2, rfl⟩ := Int.eq_ofNat_of_zero_le c2.1
  obtain ⟨U1, rfl⟩ := Int.eq_ofNat_of_zero_le c1.1
  obtain ⟨U0, rfl⟩ := Int.eq_ofNat_of_zero_le c0.1
  have hP : 0 < 4294967296 ^ m := Nat.pow_pos (by omega)
  have hvl := V_lt hv.left; rw [lvl] at hvl
  have hul := V_lt hu.left; rw [lul] at hul
  have eV : V (vl ++ [(V2 : Int), (V1 : Int)]) = (V1 * 4294967296 + V2) * 4294967296 ^ m + V vl := by
    rw [V_append, lvl]; simp only [V_cons, V_nil, Int.toNat_natCast]
    rw [Nat.mul_comm (4294967296 ^ m), Nat.add_comm, show V2 + 4294967296 * (V1 + 4294967296 * 0) = V1 * 4294967296 + V2 by omega]
  have eU : V (ul ++ [(U2 : Int), (U1 : Int), (U0 : Int)]) = ((U0 * 4294967296 + U1) * 4294967296 + U2) * 4294967296 ^ m + V ul := by
    rw [V_append, lul]; simp only [V_cons, V_nil, Int.toNat_natCast]
    rw [Nat.mul_comm (4294967296 ^ m), Nat.add_comm, show U2 + 4294967296 * (U1 + 4294967296 * (U0 + 4294967296 * 0)) = (U0 * 4294967296 + U1) * 4294967296 + U2 by omega]
  have hpm := pow_s m
  have hvv := V_lt hv; rw [lv] at hvv
  have hvpos : 0 < V (vl ++ [(V2 : Int), (V1 : Int)]) := Nat.lt_of_lt_of_le (by rw [hpm]; omega) htop
  have hms0 := fun G (hG : G < 4294967296) => msRec_V (g := G) hG (vl ++ [(V2 : Int), (V1 : Int)]) (ul ++ [(U2 : Int), (U1 : Int), (U0 : Int)]) 0 0 hv hu (by rw [lv, lu]) (by omega) (by omega)
  have hab0 := fun r (hr : Dg r) (hl : r.length = m + 3) => abRec_V (vl ++ [(V2 : Int), (V1 : Int)]) r 0 hv hr (by rw [lv, hl]) (by omega)
  have hl1 := fun G (hG : G < 4294967296) => step_l1 (vl ++ [(V2 : Int), (V1 : Int)]) hv (by omega) G hG (vl ++ [(V2 : Int), (V1 : Int)]) [] [] (ul ++ [(U2 : Int), (U1 : Int), (U0 : Int)]) 0 0 rfl rfl Dg.nil (by rw [lv, lu]) hu (by omega) (by omega)
  have r1 : rd (vl ++ [(V2 : Int), (V1 : Int)]) ((m + 1 : Nat) : Int) = (V1 : Int) := rd_at (pre := vl ++ [(V2 : Int)]) (post := []) (by simp) (by simp [lvl])
  have r2 : rd (vl ++ [(V2 : Int), (V1 : Int)]) ((m : Nat) : Int) = (V2 : Int) := rd_at (pre := vl) (post := [(V1 : Int)]) rfl lvl
  have s2 : rd (ul ++ [(U2 : Int), (U1 : Int), (U0 : Int)]) ((m : Nat) : Int) = (U2 : Int) := rd_at (pre := ul) (post := [(U1 : Int), (U0 : Int)]) rfl lul
  have s1 : rd (ul ++ [(U2 : Int), (U1 : Int), (U0 : Int)]) ((m + 1 : Nat) : Int) = (U1 : Int) := rd_at (pre := ul ++ [(U2 : Int)]) (post := [(U0 : Int)]) (by simp) (by simp [lul])
  have s0 : rd (ul ++ [(U2 : Int), (U1 : Int), (U0 : Int)]) ((m + 2 : Nat) : Int) = (U0 : Int) := rd_at (pre := ul ++ [(U2 : Int), (U1 : Int)]) (post := []) (by simp) (by simp [lul])
  generalize hvE : vl ++ [(V2 : Int), (V1 : Int)] = v at *
  generalize huE : ul ++ [(U2 : Int), (U1 : Int), (U0 : Int)] = u at *
  have hv1 : 0 < V1 := by
    rcases Nat.eq_zero_or_pos V1 with h | h
    · exfalso
      subst h
      have h3 : (0 * 4294967296 + V2) * 4294967296 ^ m + V vl < 4294967296 * 4294967296 ^ m := by
        have h4 : (V2 + 1) * 4294967296 ^ m ≤ 4294967296 * 4294967296 ^ m := Nat.mul_le_mul_right _ (by omega)
        rw [Nat.add_mul] at h4
        rw [Nat.zero_mul, Nat.zero_add]; omega
      rw [← eV, Nat.mul_comm, ← hpm] at h3
      omega
    · exact h
  have hQB : V u / V v < 4294967296 := by rw [Nat.div_lt_iff_lt_mul hvpos, Nat.mul_comm]; exact hlt
  have hQ0 : V u / V v * V v ≤ V u := Nat.div_mul_le_self _ _
  have hR : V u % V v < V v := Nat.mod_lt _ hvpos
  have hdm : V v * (V u / V v) + V u % V v = V u := Nat.div_add_mod _ _
  have hdl0 : ∀ g, g * V v ≤ V u → g ≤ V u / V v := fun g h => (Nat.le_div_iff_mul_le hvpos).2 h
  generalize V u / V v = Qq at *
  generalize V u % V v = Rr at *
  have hQ2 : Qq * (V1 * 4294967296 + V2) ≤ (U0 * 4294967296 + U1) * 4294967296 + U2 := by
    refine guess_up (vl := V vl) hP hul ?_
    rw [← eV, ← eU]; exact hQ0
  have htl : U0 * 4294967296 + U1 < V1 * 4294967296 + 4294967296 := by
    have h1 : (U0 * 4294967296 + U1) * (4294967296 ^ m * 4294967296) < (V1 * 4294967296 + 4294967296) * (4294967296 ^ m * 4294967296) := by
      have h2 : (U0 * 4294967296 + U1) * (4294967296 ^ m * 4294967296) ≤ V u := by
        rw [eU]; exact top_le _ _ _ _
      have h3 : V v * 4294967296 ≤ (V1 * 4294967296 + 4294967296) * (4294967296 ^ m * 4294967296) := by
        rw [← Nat.mul_assoc]
        refine Nat.mul_le_mul_right _ ?_
        rw [eV]
        have h4 : (V1 * 4294967296 + V2 + 1) * 4294967296 ^ m ≤ (V1 * 4294967296 + 4294967296) * 4294967296 ^ m := Nat.mul_le_mul_right _ (by omega)
        rw [Nat.add_mul _ 1, Nat.one_mul] at h4
        omega
      omega
    exact Nat.lt_of_mul_lt_mul_right h1
  have H : ∀ G : Nat, G < 4294967296 → Qq ≤ G → G * (V1 * 4294967296 + V2) ≤ (U0 * 4294967296 + U1) * 4294967296 + U2 → Ev (fun k => nat_step.j2 k u v ((m + 2 : Nat) : Int) G) (((Qq : Nat) : Int), Dk (m + 3) (Rr)) := by
    intro G hG hge hg2
    have hlow : G * V v < V u + V v := by
      have := guess_low (ul := V ul) (B := 4294967296) hP hg2 hG hvl (by rw [← eV, Nat.mul_comm, ← hpm]; exact htop)
      rwa [← eV, ← eU] at this
    have hGQ : G = Qq ∨ G = Qq + 1 := by
      have h1 : (G - 1) * V v ≤ V u := by
        rcases Nat.eq_zero_or_pos G with h | h
        · subst h; simp
        · obtain ⟨g, rfl⟩ : ∃ g, G = g + 1 := ⟨G - 1, by omega⟩
          rw [Nat.add_mul, Nat.one_mul] at hlow
          simp; omega
      have := hdl0 _ h1
      omega
    obtain ⟨m1, m2, m3, m4⟩ := hms0 G hG
    have hl := hl1 G hG
    rw [lv] at m1
    rw [lu] at m3
    have m5 := V_lt m2; rw [m3] at m5
    have ab := hab0 _ m2 m3
    rw [lv] at ab
    generalize msRec G v u 0 0 = r at *
    obtain ⟨⟨o, ab1⟩, ab2, ab3⟩ := ab
    have ab4 := V_lt ab2; rw [ab3, m3] at ab4
    rw [show m + 2 + 1 = m + 3 from rfl] at m1 ab1
    have hvM : V v < 4294967296 ^ (m + 3) := by
      rw [pow_s (m + 2)]; omega
    generalize hM : 4294967296 ^ (m + 3) = M at *
    have hgv : ∀ q, q * V v = V v * q := fun q => Nat.mul_comm _ _
    have key : (if r.2 = 0 then ((G : Int), [] ++ r.1) else (((G - 1 : Nat) : Int), abRec v ([] ++ r.1) 0)) = (((Qq : Nat) : Int), Dk (m + 3) (Rr)) ∧ (r.2 ≠ 0 → 0 < G) := by
      have hmul : G = Qq + 1 → G * V v = V v * (Qq) + V v := fun h => by rw [h, Nat.mul_comm, Nat.mul_add, Nat.mul_one]
      have hmul0 : G = Qq → G * V v = V v * (Qq) := fun h => by rw [Nat.mul_comm, h]
      by_cases h0 : r.2 = 0
      · rw [h0, Nat.zero_mul] at m1
        have hG2 : G = Qq := by
          rcases hGQ with h | h
          · exact h
          · have := hmul h; omega
        refine ⟨?_, fun h => absurd h0 h⟩
        rw [if_pos h0, List.nil_append, Dk_eq m2 m3 (n := Rr) (by have := hmul0 hG2; omega), ← hG2]
      · have hr1 : r.2 = 1 := by omega
        rw [hr1, Nat.one_mul] at m1
        have hG2 : G = Qq + 1 := by
          rcases hGQ with h | h
          · exfalso; have := hmul0 h; omega
          · exact h
        have hmm := hmul hG2
        refine ⟨?_, fun _ => by omega⟩
        have ho : o = 1 := by
          rcases Nat.lt_or_ge o 1 with h | h
          · have : o = 0 := by omega
            subst this; omega
          · rcases Nat.lt_or_ge 1 o with h2 | h2
            · have := Nat.mul_le_mul_right M h2; omega
            · omega
        subst ho
        rw [if_neg h0, List.nil_append, Dk_eq ab2 (by rw [ab3, m3]) (n := Rr) (by omega)]
        congr 2; omega
    have hl2 := hl key.2
    rw [key.1] at hl2
    refine ev_step ?_
    simp only [nat_step.j2]
    rw [lv] at hl2 ⊢
    simpa using hl2
  unfold nat_step.f
  have e1 : wrap64 (((m + 2 : Nat) : Int) - 1) = ((m + 1 : Nat) : Int) := by unfold wrap64; omega
  simp only [lv, lu, e1, r1, s1, s0]
  clear e1
  refine ev_pos nn (ev_pos (by omega) (ev_pos nn (ev_pos (by omega) (ev_pos (by omega) (ev_neg ?_ ?_)))))
  · rw [u64_n (by omega)]; omega
  rw [u64_n (n := U0) (by omega), u64_n (n := U1) (by omega), u64_n (n := V1) (by omega), or_dign U0 U1 (by omega) (by omega)]
  have hdl : (U0 * 4294967296 + U1) / V1 ≤ U0 * 4294967296 + U1 := Nat.div_le_self _ _
  rw [tdiv_n, tmod_n, u64_n (n := (U0 * 4294967296 + U1) / V1) (by omega)]
  have hml : (U0 * 4294967296 + U1) % V1 < V1 := Nat.mod_lt _ hv1
  have hdm2 := Nat.mod_add_div (U0 * 4294967296 + U1) V1
  refine step_l0 (n := m + 2) (top := U0 * 4294967296 + U1) (Q := Qq) (by omega) (by omega) lv lu r1 r2 s2 (by omega) (by omega) (by omega) htl hQ2 hQB H _ _ ?_ ?_ (by omega) (by omega)
  · rw [Nat.le_div_iff_mul_le hv1]
    have h1 : Qq * V1 * 4294967296 ≤ Qq * (V1 * 4294967296 + V2) := dm1 _ _ _ _
    have h2 := Nat.le_trans h1 hQ2
    generalize Qq * V1 = z at *
    omega
  · rw [Nat.mul_comm _ V1]; exact hdm2
end Go.Proofs.Ytldcelgbinenbaa.K
