import Derived.Test.YtldcelgbinenbaaQNatRootsF2
namespace Go.Proofs.Ytldcelgbinenbaa.Px
open Go.RowKit Go.Proofs.YtldcelgbinenbaaW.PrintWords Go.Proofs.YtldcelgbinenbaaW.PrintLast Go.Proofs.YtldcelgbinenbaaW.PrintMore
attribute [local go_sem] max2_int min2_int max_two min_two max_three min_three max_four min_four   -- for this text's walks alone
set_option linter.unusedVariables false
set_option linter.unusedSimpArgs false

/-! ### cutplaneref01_Add: function 25 -/
mutual
def cutplaneref01_Add.l0 : Nat → List Int → List Int → List Int → Int → Int → Option (List Int)
 | 0, _, _, _, _, _ => none
 | k + 1, x0, x1, x5, x6, x7 => if x7 < (x0.length : Int) then (cutplaneref01_Add.j1 k x0 x1 x5 x6 x7 true) else (cutplaneref01_Add.j1 k x0 x1 x5 x6 x7 (decide (x7 < (x1.length : Int))))
def cutplaneref01_Add.j1 : Nat → List Int → List Int → List Int → Int → Int → Bool → Option (List Int)
 | 0, _, _, _, _, _, _ => none
 | k + 1, x0, x1, x5, x6, x7, x17 => if x17 = true then (if x7 < (x0.length : Int) then (if 0 ≤ x7 then (if x7 < (x1.length : Int) then (if x5.length < 35184372088832 then (cutplaneref01_Add.l0 k x0 x1 (x5 ++ [(IntKind.u64.wrap ((IntKind.u64.wrap (x6 + (IntKind.u64.wrap (rd x0 x7)))) + (IntKind.u64.wrap (rd x1 x7)))) % 4294967296]) ((IntKind.u64.wrap ((IntKind.u64.wrap (x6 + (IntKind.u64.wrap (rd x0 x7)))) + (IntKind.u64.wrap (rd x1 x7)))) / 4294967296) (wrap64 (x7 + 1))) else (none)) else (if x5.length < 35184372088832 then (cutplaneref01_Add.l0 k x0 x1 (x5 ++ [(IntKind.u64.wrap (x6 + (IntKind.u64.wrap (rd x0 x7)))) % 4294967296]) ((IntKind.u64.wrap (x6 + (IntKind.u64.wrap (rd x0 x7)))) / 4294967296) (wrap64 (x7 + 1))) else (none))) else (none)) else (if x7 < (x1.length : Int) then (if 0 ≤ x7 then (if x5.length < 35184372088832 then (cutplaneref01_Add.l0 k x0 x1 (x5 ++ [(IntKind.u64.wrap (x6 + (IntKind.u64.wrap (rd x1 x7)))) % 4294967296]) ((IntKind.u64.wrap (x6 + (IntKind.u64.wrap (rd x1 x7)))) / 4294967296) (wrap64 (x7 + 1))) else (none)) else (none)) else (if x5.length < 35184372088832 then (cutplaneref01_Add.l0 k x0 x1 (x5 ++ [(x6) % 4294967296]) (x6 / 4294967296) (wrap64 (x7 + 1))) else (none)))) else (if x5.length < 35184372088832 then ((cutplaneref01_Trim.f k (x5 ++ [(x6) % 4294967296])).bind fun t215 => (some t215)) else (none))
end
def cutplaneref01_Add.f (k : Nat) (l0 : List Int) (l1 : List Int) : Option (List Int) := cutplaneref01_Add.l0 k l0 l1 ([] : List Int) 0 0
theorem cutplaneref01_Add.mono_l : ∀ k, (∀ y0 y1 y2 y3 y4, LeO (cutplaneref01_Add.l0 k y0 y1 y2 y3 y4) (cutplaneref01_Add.l0 (k + 1) y0 y1 y2 y3 y4)) ∧ (∀ y0 y1 y2 y3 y4 y5, LeO (cutplaneref01_Add.j1 k y0 y1 y2 y3 y4 y5) (cutplaneref01_Add.j1 (k + 1) y0 y1 y2 y3 y4 y5))
 | 0 => ⟨fun _ _ _ _ _ r h => by simp [cutplaneref01_Add.l0] at h, fun _ _ _ _ _ _ r h => by simp [cutplaneref01_Add.j1] at h⟩
 | k + 1 => by
  obtain ⟨ih0, ih1⟩ := cutplaneref01_Add.mono_l k
  refine ⟨?_, ?_⟩
  ·intro y0 y1 y2 y3 y4
   unfold cutplaneref01_Add.l0
   repeat' (with_reducible first | exact ih0 _ _ _ _ _ | exact ih1 _ _ _ _ _ _ | exact cutplaneref01_Trim.mono _ _ | exact LeO.refl _ | exact LeO.none _ | refine LeO.ite ?_ ?_ | refine LeO.bind ?_ (fun _ => ?_))
  ·intro y0 y1 y2 y3 y4 y5
   unfold cutplaneref01_Add.j1
   repeat' (with_reducible first | exact ih0 _ _ _ _ _ | exact ih1 _ _ _ _ _ _ | exact cutplaneref01_Trim.mono _ _ | exact LeO.refl _ | exact LeO.none _ | refine LeO.ite ?_ ?_ | refine LeO.bind ?_ (fun _ => ?_))
theorem cutplaneref01_Add.mono : ∀ a0 a1 k, LeO (cutplaneref01_Add.f k a0 a1) (cutplaneref01_Add.f (k + 1) a0 a1) := by
 intro a0 a1 k
 obtain ⟨ih0, ih1⟩ := cutplaneref01_Add.mono_l k
 unfold cutplaneref01_Add.f
 repeat' (with_reducible first | exact ih0 _ _ _ _ _ | exact ih1 _ _ _ _ _ _ | exact cutplaneref01_Trim.mono _ _ | exact LeO.refl _ | exact LeO.none _ | refine LeO.ite ?_ ?_ | refine LeO.bind ?_ (fun _ => ?_))
set_option maxHeartbeats 8000000 in
set_option maxRecDepth 100000 in
theorem cutplaneref01_Add.calls (k : Nat) (A0 : Option Addr) (c0 : Nat) (l0 : List Int) (A1 : Option Addr) (c1 : Nat) (l1 : List Int) (r : List Int) (w : World) (hr0 : Kd.C (Kd.int .u32) w A0 l0.length l0) (hc0 : l0.length ≤ c0) (hr1 : Kd.C (Kd.int .u32) w A1 l1.length l1) (hc1 : l1.length ≤ c1) (h : cutplaneref01_Add.f k l0 l1 = some r) :
  Calls Try.prog 25 #[.slice A0 l0.length c0, .slice A1 l1.length c1] w fun e w' => ∃ v0_ : Value, e = .returned (v0_) ∧ Kd.R (Kd.int .u32) 42 w' w.heap.size (fun _ => True) v0_ r ∧ Below w.heap.size w w' := by
 have HR0 := Aside0.mk hr0
 have HC0 := Aside0.mk hc0
 clear hr0 hc0
 have HR1 := Aside0.mk hr1
 have HC1 := Aside0.mk hc1
 clear hr1 hc1
 have HB := Aside0.mk (Below.refl w.heap.size w)
 have H := h
 unfold cutplaneref01_Add.f at H
 clear h
 have H' := Aside0.mk H
 clear H
 go_enter Try.func25, Try.ntmps25
 go_wp2
 go_loopg [5, 6, 7] k (fun kq v5 v6 v7 w' => ∃ (x5_1 : List Int) (x6_1 : Int) (x7_1 : Int), v6 = .int .u64 x6_1 ∧ v7 = .int .i64 x7_1 ∧ Aside0 (cutplaneref01_Add.l0 kq l0 l1 x5_1 x6_1 x7_1 = some r) ∧ Aside0 (kq ≤ k) ∧ Aside0 (Kd.R (Kd.int .u32) 42 w' w.heap.size (fun _ => True) v5 x5_1) ∧ Aside0 (Below w.heap.size w w'))
 case atStart => exact ⟨(([] : List Int)), (0), (0), es, es, H', ⟨Nat.le_refl _⟩, ⟨by first | exact Kd.R_nil _ _ _ _ _ | exact Kd.N_nil _ _ _ _ _ | exact Kd.V_nil _ _ _ _ _ | exact Kd.Q_nil _ _ _ _ _ | exact Kd.S_nil _ _ _ _ _⟩, ⟨bU HB⟩⟩
 case round =>
  clear H'
  try clear c1; try clear c2; try clear p2
  obtain ⟨x5_1, x6_1, x7_1, rfl, rfl, HA, HK1, HO_5, HB⟩ := hrel
  cases gk with
  | zero => exact absurd HA.out (by simp [cutplaneref01_Add.l0])
  | succ k1 =>
   have H := HA.out
   clear HA
   simp only [cutplaneref01_Add.l0] at H
   have HC3 := Aside0.mk H
   clear H
   go_upto_region 4 with (fail)
   go_cut [17] (fun v17 wc => ∃ (kq : Nat) (x17_2 : Bool), v17 = .bool x17_2 ∧ Aside0 (cutplaneref01_Add.j1 kq l0 l1 x5_1 x6_1 x7_1 x17_2 = some r) ∧ Aside0 (kq ≤ k1) ∧ Aside0 (Kd.R (Kd.int .u32) 42 wc w.heap.size (fun _ => True) u5 x5_1) ∧ Aside0 (Below w.heap.size w wc))
   case first =>
    have H := HC3.out
    clear HC3
    by_cases c4 : x7_1 < (l0.length : Int)
    ·rw [if_pos c4] at H
     have c4b0 := decide_eq_true c4
     clear c4
     (first | rw [c4b0] | (simp only [i64_w, i32_w]; rw [c4b0]) | skip)
     have H' := Aside0.mk H
     clear H
     go_wp2
     go_meet
     case rel => exact ⟨_, (true), es, H', ⟨by have := HK1.out; first | omega | exact Nat.le_refl _⟩, ⟨rU HO_5⟩, ⟨bU HB⟩⟩
    ·rw [if_neg c4] at H
     have c4b0 := decide_eq_false c4
     clear c4
     (first | rw [c4b0] | (simp only [i64_w, i32_w]; rw [c4b0]) | skip)
     have H' := Aside0.mk H
     clear H
     go_wp2
     go_meet
     case rel => exact ⟨_, (decide (x7_1 < (l1.length : Int))), es, H', ⟨by have := HK1.out; first | omega | exact Nat.le_refl _⟩, ⟨rU HO_5⟩, ⟨bU HB⟩⟩
   case rest =>
    clear HC3
    try clear c1; try clear c2; try clear p2; try clear c4; try clear c4b0; try clear p2
    obtain ⟨kq, x17_2, rfl, HA, HJ2, HO_5, HB⟩ := hcut
    cases kq with
    | zero => exact absurd HA.out (by simp [cutplaneref01_Add.j1])
    | succ kj2 =>
     have H := HA.out
     clear HA
     simp only [cutplaneref01_Add.j1] at H
     by_cases c5 : x17_2 = true
     ·subst c5
      rw [if_pos rfl] at H
      by_cases c6 : x7_1 < (l0.length : Int)
      ·rw [if_pos c6] at H
       have c6b0 := decide_eq_true c6
       clear c6
       by_cases c7 : 0 ≤ x7_1
       ·rw [if_pos c7] at H
        have c7b0 := decide_eq_true c7
        clear c7
        by_cases c8 : x7_1 < (l1.length : Int)
        ·rw [if_pos c8] at H
         have c8b0 := decide_eq_true c8
         clear c8
         by_cases c9 : x5_1.length < 35184372088832
         ·rw [if_pos c9] at H
          have LMc9 := Aside0.mk c9
          clear c9
          obtain ⟨y220, hy220⟩ : ∃ y_ : List Int, y_ = (x5_1 ++ [(IntKind.u64.wrap ((IntKind.u64.wrap (x6_1 + (IntKind.u64.wrap (rd l0 x7_1)))) + (IntKind.u64.wrap (rd l1 x7_1)))) % 4294967296]) := ⟨_, rfl⟩
          try rw [← hy220] at H
          have Ny220 := Aside0.mk hy220
          clear hy220
          have H' := Aside0.mk H
          clear H
          have p218 : 0 ≤ (x7_1 : Int) := of_decide_eq_true (by first | (with_reducible assumption) | assumption)
          have q218 : x7_1 < (l0.length : Int) := of_decide_eq_true (by first | (with_reducible assumption) | assumption)
          obtain ⟨ad218, e218, hx218_0⟩ := Kd.at_int HR0.out x7_1 p218 q218
          cases e218
          replace hx218_0 := (HB.out.cell (World.block_lt_of_cell? w _ hx218_0)).trans hx218_0
          replace p218 := eq_true p218
          replace q218 := eq_true q218
          have p219 : 0 ≤ (x7_1 : Int) := of_decide_eq_true (by first | (with_reducible assumption) | assumption)
          have q219 : x7_1 < (l1.length : Int) := of_decide_eq_true (by first | (with_reducible assumption) | assumption)
          obtain ⟨ad219, e219, hx219_0⟩ := Kd.at_int HR1.out x7_1 p219 q219
          cases e219
          replace hx219_0 := (HB.out.cell (World.block_lt_of_cell? w _ hx219_0)).trans hx219_0
          replace p219 := eq_true p219
          replace q219 := eq_true q219
          go_wp2_with (first | ((with_reducible refine gate_builtin (b := .append) (xs := #[.tmp 42, .tmp 45]) rfl ?_); (try (refine gate_guard (by rfl) ?_; dsimp only)); at_builtin; refine Kd.R_append (Kd.int .u32) (w0 := w) w.heap.size rfl (.tmp 42) (.tmp 45) 22 42 (.int .u32 0) 4 rfl Try.underlying22 info42 rfl (by decide) (by omega) u5 x5_1 ((IntKind.u64.wrap ((IntKind.u64.wrap (x6_1 + (IntKind.u64.wrap (rd l0 x7_1)))) + (IntKind.u64.wrap (rd l1 x7_1)))) % 4294967296) [.int .u32 ((IntKind.u64.wrap ((IntKind.u64.wrap (x6_1 + (IntKind.u64.wrap (rd l0 x7_1)))) + (IntKind.u64.wrap (rd l1 x7_1)))) % 4294967296)] (fun _ => True) (fun _ => False) rfl rfl ?aP (fun _ hk => hk.elim) ?aF ?aO ?aB ?aS ?aL ?_; (case aP => exact rfl); (case aB => exact (bU HB)); (case aF => exact (fun _ _ => trivial)); (case aO => exact (rU HO_5)); (case aS => exact (below_size (bU HB))); (case aL => have := LMc9.out; omega); intro v221 w10 ho hb hg hat; rw [← Ny220.out] at ho; replace HB := Aside0.mk (hb); have HO222 := Aside0.mk (ho); clear HO_5; clear ho hb hg hat))
          go_roundg kj2
          case measure => have := HK1.out; have := HJ2.out; omega
          case rel => exact ⟨(y220), ((IntKind.u64.wrap ((IntKind.u64.wrap (x6_1 + (IntKind.u64.wrap (rd l0 x7_1)))) + (IntKind.u64.wrap (rd l1 x7_1)))) / 4294967296), (wrap64 (x7_1 + 1)), es, es, H', ⟨by have := HK1.out; have := HJ2.out; omega⟩, ⟨rU HO222⟩, ⟨bU HB⟩⟩
         ·rw [if_neg c9] at H
          exact absurd H (by simp)
        ·rw [if_neg c8] at H
         have c8b0 := decide_eq_false c8
         clear c8
         by_cases c11 : x5_1.length < 35184372088832
         ·rw [if_pos c11] at H
          have LMc11 := Aside0.mk c11
          clear c11
          obtain ⟨y223, hy223⟩ : ∃ y_ : List Int, y_ = (x5_1 ++ [(IntKind.u64.wrap (x6_1 + (IntKind.u64.wrap (rd l0 x7_1)))) % 4294967296]) := ⟨_, rfl⟩
          try rw [← hy223] at H
          have Ny223 := Aside0.mk hy223
          clear hy223
          have H' := Aside0.mk H
          clear H
          have p218 : 0 ≤ (x7_1 : Int) := of_decide_eq_true (by first | (with_reducible assumption) | assumption)
          have q218 : x7_1 < (l0.length : Int) := of_decide_eq_true (by first | (with_reducible assumption) | assumption)
          obtain ⟨ad218, e218, hx218_0⟩ := Kd.at_int HR0.out x7_1 p218 q218
          cases e218
          replace hx218_0 := (HB.out.cell (World.block_lt_of_cell? w _ hx218_0)).trans hx218_0
          replace p218 := eq_true p218
          replace q218 := eq_true q218
          go_wp2_with (first | ((with_reducible refine gate_builtin (b := .append) (xs := #[.tmp 42, .tmp 45]) rfl ?_); (try (refine gate_guard (by rfl) ?_; dsimp only)); at_builtin; refine Kd.R_append (Kd.int .u32) (w0 := w) w.heap.size rfl (.tmp 42) (.tmp 45) 22 42 (.int .u32 0) 4 rfl Try.underlying22 info42 rfl (by decide) (by omega) u5 x5_1 ((IntKind.u64.wrap (x6_1 + (IntKind.u64.wrap (rd l0 x7_1)))) % 4294967296) [.int .u32 ((IntKind.u64.wrap (x6_1 + (IntKind.u64.wrap (rd l0 x7_1)))) % 4294967296)] (fun _ => True) (fun _ => False) rfl rfl ?aP (fun _ hk => hk.elim) ?aF ?aO ?aB ?aS ?aL ?_; (case aP => exact rfl); (case aB => exact (bU HB)); (case aF => exact (fun _ _ => trivial)); (case aO => exact (rU HO_5)); (case aS => exact (below_size (bU HB))); (case aL => have := LMc11.out; omega); intro v224 w12 ho hb hg hat; rw [← Ny223.out] at ho; replace HB := Aside0.mk (hb); have HO225 := Aside0.mk (ho); clear HO_5; clear ho hb hg hat))
          go_roundg kj2
          case measure => have := HK1.out; have := HJ2.out; omega
          case rel => exact ⟨(y223), ((IntKind.u64.wrap (x6_1 + (IntKind.u64.wrap (rd l0 x7_1)))) / 4294967296), (wrap64 (x7_1 + 1)), es, es, H', ⟨by have := HK1.out; have := HJ2.out; omega⟩, ⟨rU HO225⟩, ⟨bU HB⟩⟩
         ·rw [if_neg c11] at H
          exact absurd H (by simp)
       ·rw [if_neg c7] at H
        exact absurd H (by simp)
      ·rw [if_neg c6] at H
       have c6b0 := decide_eq_false c6
       clear c6
       by_cases c13 : x7_1 < (l1.length : Int)
       ·rw [if_pos c13] at H
        have c13b0 := decide_eq_true c13
        clear c13
        by_cases c14 : 0 ≤ x7_1
        ·rw [if_pos c14] at H
         have c14b0 := decide_eq_true c14
         clear c14
         by_cases c15 : x5_1.length < 35184372088832
         ·rw [if_pos c15] at H
          have LMc15 := Aside0.mk c15
          clear c15
          obtain ⟨y227, hy227⟩ : ∃ y_ : List Int, y_ = (x5_1 ++ [(IntKind.u64.wrap (x6_1 + (IntKind.u64.wrap (rd l1 x7_1)))) % 4294967296]) := ⟨_, rfl⟩
          try rw [← hy227] at H
          have Ny227 := Aside0.mk hy227
          clear hy227
          have H' := Aside0.mk H
          clear H
          have p226 : 0 ≤ (x7_1 : Int) := of_decide_eq_true (by first | (with_reducible assumption) | assumption)
          have q226 : x7_1 < (l1.length : Int) := of_decide_eq_true (by first | (with_reducible assumption) | assumption)
          obtain ⟨ad226, e226, hx226_0⟩ := Kd.at_int HR1.out x7_1 p226 q226
          cases e226
          replace hx226_0 := (HB.out.cell (World.block_lt_of_cell? w _ hx226_0)).trans hx226_0
          replace p226 := eq_true p226
          replace q226 := eq_true q226
          go_wp2_with (first | ((with_reducible refine gate_builtin (b := .append) (xs := #[.tmp 42, .tmp 45]) rfl ?_); (try (refine gate_guard (by rfl) ?_; dsimp only)); at_builtin; refine Kd.R_append (Kd.int .u32) (w0 := w) w.heap.size rfl (.tmp 42) (.tmp 45) 22 42 (.int .u32 0) 4 rfl Try.underlying22 info42 rfl (by decide) (by omega) u5 x5_1 ((IntKind.u64.wrap (x6_1 + (IntKind.u64.wrap (rd l1 x7_1)))) % 4294967296) [.int .u32 ((IntKind.u64.wrap (x6_1 + (IntKind.u64.wrap (rd l1 x7_1)))) % 4294967296)] (fun _ => True) (fun _ => False) rfl rfl ?aP (fun _ hk => hk.elim) ?aF ?aO ?aB ?aS ?aL ?_; (case aP => exact rfl); (case aB => exact (bU HB)); (case aF => exact (fun _ _ => trivial)); (case aO => exact (rU HO_5)); (case aS => exact (below_size (bU HB))); (case aL => have := LMc15.out; omega); intro v228 w16 ho hb hg hat; rw [← Ny227.out] at ho; replace HB := Aside0.mk (hb); have HO229 := Aside0.mk (ho); clear HO_5; clear ho hb hg hat))
          go_roundg kj2
          case measure => have := HK1.out; have := HJ2.out; omega
          case rel => exact ⟨(y227), ((IntKind.u64.wrap (x6_1 + (IntKind.u64.wrap (rd l1 x7_1)))) / 4294967296), (wrap64 (x7_1 + 1)), es, es, H', ⟨by have := HK1.out; have := HJ2.out; omega⟩, ⟨rU HO229⟩, ⟨bU HB⟩⟩
         ·rw [if_neg c15] at H
          exact absurd H (by simp)
        ·rw [if_neg c14] at H
         exact absurd H (by simp)
       ·rw [if_neg c13] at H
        have c13b0 := decide_eq_false c13
        clear c13
        by_cases c17 : x5_1.length < 35184372088832
        ·rw [if_pos c17] at H
         have LMc17 := Aside0.mk c17
         clear c17
         obtain ⟨y230, hy230⟩ : ∃ y_ : List Int, y_ = (x5_1 ++ [(x6_1) % 4294967296]) := ⟨_, rfl⟩
         try rw [← hy230] at H
         have Ny230 := Aside0.mk hy230
         clear hy230
         have H' := Aside0.mk H
         clear H
         go_wp2_with (first | ((with_reducible refine gate_builtin (b := .append) (xs := #[.tmp 42, .tmp 45]) rfl ?_); (try (refine gate_guard (by rfl) ?_; dsimp only)); at_builtin; refine Kd.R_append (Kd.int .u32) (w0 := w) w.heap.size rfl (.tmp 42) (.tmp 45) 22 42 (.int .u32 0) 4 rfl Try.underlying22 info42 rfl (by decide) (by omega) u5 x5_1 ((x6_1) % 4294967296) [.int .u32 ((x6_1) % 4294967296)] (fun _ => True) (fun _ => False) rfl rfl ?aP (fun _ hk => hk.elim) ?aF ?aO ?aB ?aS ?aL ?_; (case aP => exact rfl); (case aB => exact (bU HB)); (case aF => exact (fun _ _ => trivial)); (case aO => exact (rU HO_5)); (case aS => exact (below_size (bU HB))); (case aL => have := LMc17.out; omega); intro v231 w18 ho hb hg hat; rw [← Ny230.out] at ho; replace HB := Aside0.mk (hb); have HO232 := Aside0.mk (ho); clear HO_5; clear ho hb hg hat))
         go_roundg kj2
         case measure => have := HK1.out; have := HJ2.out; omega
         case rel => exact ⟨(y230), (x6_1 / 4294967296), (wrap64 (x7_1 + 1)), es, es, H', ⟨by have := HK1.out; have := HJ2.out; omega⟩, ⟨rU HO232⟩, ⟨bU HB⟩⟩
        ·rw [if_neg c17] at H
         exact absurd H (by simp)
     ·replace c5 := Bool.eq_false_iff.mpr c5
      subst c5
      rw [if_neg (show ¬ (false = true) by decide)] at H
      by_cases c19 : x5_1.length < 35184372088832
      ·rw [if_pos c19] at H
       have LMc19 := Aside0.mk c19
       clear c19
       obtain ⟨y212, hy212⟩ : ∃ y_ : List Int, y_ = (x5_1 ++ [(x6_1) % 4294967296]) := ⟨_, rfl⟩
       try rw [← hy212] at H
       have Ny212 := Aside0.mk hy212
       clear hy212
       replace H := oc H
       obtain ⟨t215, A20, H⟩ := H
       obtain rfl := Option.some.inj H
       go_wp2_with (first | ((with_reducible refine gate_builtin (b := .append) (xs := #[.tmp 49, .tmp 52]) rfl ?_); (try (refine gate_guard (by rfl) ?_; dsimp only)); at_builtin; refine Kd.R_append (Kd.int .u32) (w0 := w) w.heap.size rfl (.tmp 49) (.tmp 52) 22 42 (.int .u32 0) 4 rfl Try.underlying22 info42 rfl (by decide) (by omega) u5 x5_1 ((x6_1) % 4294967296) [.int .u32 ((x6_1) % 4294967296)] (fun _ => True) (fun _ => False) rfl rfl ?aP (fun _ hk => hk.elim) ?aF ?aO ?aB ?aS ?aL ?_; (case aP => exact rfl); (case aB => exact (bU HB)); (case aF => exact (fun _ _ => trivial)); (case aO => exact (rU HO_5)); (case aS => exact (below_size (bU HB))); (case aL => have := LMc19.out; omega); intro v213 w21 ho hb hg hat; rw [← Ny212.out] at ho; replace HB := Aside0.mk (hb); have HO214 := Aside0.mk (ho); clear HO_5; clear ho hb hg hat; obtain ⟨Ao22, co22, rfl⟩ := Kd.R_slice HO214.out) | ((with_reducible refine gc 42 rfl ?_); refine gL (some 54) Try.func42 #[.slice Ao22 y212.length co22] ?_; (with_reducible refine (cutplaneref01_Trim.calls kj2 (fun k_ => some k_ = (.slice Ao22 y212.length co22 : Value).ownBlock) (.slice Ao22 y212.length co22) y212 t215 w _ ?side1 ?side2 A20.out).mono ?_); (case side1 => exact bU HB); (case side2 => exact Kd.R_tight rfl HO214.out); rintro e w23 ⟨v216, rfl, ho0, hb, hkp⟩; refine ⟨_, rfl, ?_⟩; have HO217 := Aside0.mk (Kd.R_mono (ok' := fun k_ => True) ho0 (fun k_ hk_ => trivial)); replace HB := Aside0.mk (hb); clear HO214; clear hb hkp ho0))
       go_ret
       exact ⟨_, by first | rfl | (simp [errW_none, errW_some] <;> rfl) | (simp [*, errW_none, errW_some] <;> rfl), rU HO217, bU HB⟩
      ·rw [if_neg c19] at H
       exact absurd H (by simp)

end Go.Proofs.Ytldcelgbinenbaa.Px

namespace Go.Proofs.Ytldcelgbinenbaa.Px
open Go.RowKit Go.Proofs.YtldcelgbinenbaaW.PrintWords Go.Proofs.YtldcelgbinenbaaW.PrintLast Go.Proofs.YtldcelgbinenbaaW.PrintMore
attribute [local go_sem] max2_int min2_int max_two min_two max_three min_three max_four min_four   -- for this text's walks alone
set_option linter.unusedVariables false
set_option linter.unusedSimpArgs false

/-! ### cutplaneref01_Sub: function 26 -/
def cutplaneref01_Sub.l0 : Nat → List Int → List Int → List Int → Int → Int → Option (List Int)
 | 0, _, _, _, _, _ => none
 | k + 1, x0, x1, x5, x6, x7 => if x7 < (x0.length : Int) then (if x7 < (x1.length : Int) then (if 0 ≤ x7 then (if (IntKind.u64.wrap (rd x0 x7)) < (IntKind.u64.wrap (x6 + (IntKind.u64.wrap (rd x1 x7)))) then (if x5.length < 35184372088832 then (cutplaneref01_Sub.l0 k x0 x1 (x5 ++ [(IntKind.u64.wrap ((IntKind.u64.wrap ((IntKind.u64.wrap (rd x0 x7)) + 4294967296)) - (IntKind.u64.wrap (x6 + (IntKind.u64.wrap (rd x1 x7)))))) % 4294967296]) 1 (wrap64 (x7 + 1))) else (none)) else (if x5.length < 35184372088832 then (cutplaneref01_Sub.l0 k x0 x1 (x5 ++ [(IntKind.u64.wrap ((IntKind.u64.wrap (rd x0 x7)) - (IntKind.u64.wrap (x6 + (IntKind.u64.wrap (rd x1 x7)))))) % 4294967296]) 0 (wrap64 (x7 + 1))) else (none))) else (none)) else (if 0 ≤ x7 then (if (IntKind.u64.wrap (rd x0 x7)) < x6 then (if x5.length < 35184372088832 then (cutplaneref01_Sub.l0 k x0 x1 (x5 ++ [(IntKind.u64.wrap ((IntKind.u64.wrap ((IntKind.u64.wrap (rd x0 x7)) + 4294967296)) - x6)) % 4294967296]) 1 (wrap64 (x7 + 1))) else (none)) else (if x5.length < 35184372088832 then (cutplaneref01_Sub.l0 k x0 x1 (x5 ++ [(IntKind.u64.wrap ((IntKind.u64.wrap (rd x0 x7)) - x6)) % 4294967296]) 0 (wrap64 (x7 + 1))) else (none))) else (none))) else ((cutplaneref01_Trim.f k x5).bind fun t233 => (some t233))
def cutplaneref01_Sub.f (k : Nat) (l0 : List Int) (l1 : List Int) : Option (List Int) := cutplaneref01_Sub.l0 k l0 l1 ([] : List Int) 0 0
theorem cutplaneref01_Sub.mono_l : ∀ k, (∀ y0 y1 y2 y3 y4, LeO (cutplaneref01_Sub.l0 k y0 y1 y2 y3 y4) (cutplaneref01_Sub.l0 (k + 1) y0 y1 y2 y3 y4))
 | 0 => fun _ _ _ _ _ r h => by simp [cutplaneref01_Sub.l0] at h
 | k + 1 => by
  have ih0 := cutplaneref01_Sub.mono_l k
  ·intro y0 y1 y2 y3 y4
   unfold cutplaneref01_Sub.l0
   repeat' (with_reducible first | exact ih0 _ _ _ _ _ | exact cutplaneref01_Trim.mono _ _ | exact LeO.refl _ | exact LeO.none _ | refine LeO.ite ?_ ?_ | refine LeO.bind ?_ (fun _ => ?_))
theorem cutplaneref01_Sub.mono : ∀ a0 a1 k, LeO (cutplaneref01_Sub.f k a0 a1) (cutplaneref01_Sub.f (k + 1) a0 a1) := by
 intro a0 a1 k
 have ih0 := cutplaneref01_Sub.mono_l k
 unfold cutplaneref01_Sub.f
 repeat' (with_reducible first | exact ih0 _ _ _ _ _ | exact cutplaneref01_Trim.mono _ _ | exact LeO.refl _ | exact LeO.none _ | refine LeO.ite ?_ ?_ | refine LeO.bind ?_ (fun _ => ?_))
set_option maxHeartbeats 8000000 in
set_option maxRecDepth 100000 in
theorem cutplaneref01_Sub.calls (k : Nat) (A0 : Option Addr) (c0 : Nat) (l0 : List Int) (A1 : Option Addr) (c1 : Nat) (l1 : List Int) (r : List Int) (w : World) (hr0 : Kd.C (Kd.int .u32) w A0 l0.length l0) (hc0 : l0.length ≤ c0) (hr1 : Kd.C (Kd.int .u32) w A1 l1.length l1) (hc1 : l1.length ≤ c1) (h : cutplaneref01_Sub.f k l0 l1 = some r) :
  Calls Try.prog 26 #[.slice A0 l0.length c0, .slice A1 l1.length c1] w fun e w' => ∃ v0_ : Value, e = .returned (v0_) ∧ Kd.R (Kd.int .u32) 42 w' w.heap.size (fun _ => True) v0_ r ∧ Below w.heap.size w w' := by
 have HR0 := Aside0.mk hr0
 have HC0 := Aside0.mk hc0
 clear hr0 hc0
 have HR1 := Aside0.mk hr1
 have HC1 := Aside0.mk hc1
 clear hr1 hc1
 have HB := Aside0.mk (Below.refl w.heap.size w)
 have H := h
 unfold cutplaneref01_Sub.f at H
 clear h
 have H' := Aside0.mk H
 clear H
 go_enter Try.func26, Try.ntmps26
 go_wp2
 go_loopg [5, 6, 7] k (fun kq v5 v6 v7 w' => ∃ (x5_1 : List Int) (x6_1 : Int) (x7_1 : Int), v6 = .int .u64 x6_1 ∧ v7 = .int .i64 x7_1 ∧ Aside0 (cutplaneref01_Sub.l0 kq l0 l1 x5_1 x6_1 x7_1 = some r) ∧ Aside0 (kq ≤ k) ∧ Aside0 (Kd.R (Kd.int .u32) 42 w' w.heap.size (fun _ => True) v5 x5_1) ∧ Aside0 (Below w.heap.size w w'))
 case atStart => exact ⟨(([] : List Int)), (0), (0), es, es, H', ⟨Nat.le_refl _⟩, ⟨by first | exact Kd.R_nil _ _ _ _ _ | exact Kd.N_nil _ _ _ _ _ | exact Kd.V_nil _ _ _ _ _ | exact Kd.Q_nil _ _ _ _ _ | exact Kd.S_nil _ _ _ _ _⟩, ⟨bU HB⟩⟩
 case round =>
  clear H'
  try clear c1; try clear c2; try clear p2
  obtain ⟨x5_1, x6_1, x7_1, rfl, rfl, HA, HK1, HO_5, HB⟩ := hrel
  cases gk with
  | zero => exact absurd HA.out (by simp [cutplaneref01_Sub.l0])
  | succ k1 =>
   have H := HA.out
   clear HA
   simp only [cutplaneref01_Sub.l0] at H
   by_cases c3 : x7_1 < (l0.length : Int)
   ·rw [if_pos c3] at H
    have c3b0 := decide_eq_true c3
    clear c3
    by_cases c4 : x7_1 < (l1.length : Int)
    ·rw [if_pos c4] at H
     have c4b0 := decide_eq_true c4
     clear c4
     by_cases c5 : 0 ≤ x7_1
     ·rw [if_pos c5] at H
      have c5b0 := decide_eq_true c5
      clear c5
      by_cases c6 : (IntKind.u64.wrap (rd l0 x7_1)) < (IntKind.u64.wrap (x6_1 + (IntKind.u64.wrap (rd l1 x7_1))))
      ·rw [if_pos c6] at H
       have c6b0 := decide_eq_true c6
       clear c6
       by_cases c7 : x5_1.length < 35184372088832
       ·rw [if_pos c7] at H
        have LMc7 := Aside0.mk c7
        clear c7
        obtain ⟨y238, hy238⟩ : ∃ y_ : List Int, y_ = (x5_1 ++ [(IntKind.u64.wrap ((IntKind.u64.wrap ((IntKind.u64.wrap (rd l0 x7_1)) + 4294967296)) - (IntKind.u64.wrap (x6_1 + (IntKind.u64.wrap (rd l1 x7_1)))))) % 4294967296]) := ⟨_, rfl⟩
        try rw [← hy238] at H
        have Ny238 := Aside0.mk hy238
        clear hy238
        have H' := Aside0.mk H
        clear H
        have p236 : 0 ≤ (x7_1 : Int) := of_decide_eq_true (by first | (with_reducible assumption) | assumption)
        have q236 : x7_1 < (l1.length : Int) := of_decide_eq_true (by first | (with_reducible assumption) | assumption)
        obtain ⟨ad236, e236, hx236_0⟩ := Kd.at_int HR1.out x7_1 p236 q236
        cases e236
        replace hx236_0 := (HB.out.cell (World.block_lt_of_cell? w _ hx236_0)).trans hx236_0
        replace p236 := eq_true p236
        replace q236 := eq_true q236
        have p237 : 0 ≤ (x7_1 : Int) := of_decide_eq_true (by first | (with_reducible assumption) | assumption)
        have q237 : x7_1 < (l0.length : Int) := of_decide_eq_true (by first | (with_reducible assumption) | assumption)
        obtain ⟨ad237, e237, hx237_0⟩ := Kd.at_int HR0.out x7_1 p237 q237
        cases e237
        replace hx237_0 := (HB.out.cell (World.block_lt_of_cell? w _ hx237_0)).trans hx237_0
        replace p237 := eq_true p237
        replace q237 := eq_true q237
        go_wp2_with (first | ((with_reducible refine gate_builtin (b := .append) (xs := #[.tmp 38, .tmp 43]) rfl ?_); at_builtin; refine Kd.R_append (Kd.int .u32) (w0 := w) w.heap.size rfl (.tmp 38) (.tmp 43) 22 42 (.int .u32 0) 4 rfl Try.underlying22 info42 rfl (by decide) (by omega) u5 x5_1 ((IntKind.u64.wrap ((IntKind.u64.wrap ((IntKind.u64.wrap (rd l0 x7_1)) + 4294967296)) - (IntKind.u64.wrap (x6_1 + (IntKind.u64.wrap (rd l1 x7_1)))))) % 4294967296) [.int .u32 ((IntKind.u64.wrap ((IntKind.u64.wrap ((IntKind.u64.wrap (rd l0 x7_1)) + 4294967296)) - (IntKind.u64.wrap (x6_1 + (IntKind.u64.wrap (rd l1 x7_1)))))) % 4294967296)] (fun _ => True) (fun _ => False) rfl rfl ?aP (fun _ hk => hk.elim) ?aF ?aO ?aB ?aS ?aL ?_; (case aP => exact rfl); (case aB => exact (bU HB)); (case aF => exact (fun _ _ => trivial)); (case aO => exact (rU HO_5)); (case aS => exact (below_size (bU HB))); (case aL => have := LMc7.out; omega); intro v239 w8 ho hb hg hat; rw [← Ny238.out] at ho; replace HB := Aside0.mk (hb); have HO240 := Aside0.mk (ho); clear HO_5; clear ho hb hg hat))
        go_roundg k1
        case measure => have := HK1.out; omega
        case rel => exact ⟨(y238), (1), (wrap64 (x7_1 + 1)), es, es, H', ⟨by have := HK1.out; omega⟩, ⟨rU HO240⟩, ⟨bU HB⟩⟩
       ·rw [if_neg c7] at H
        exact absurd H (by simp)
      ·rw [if_neg c6] at H
       have c6b0 := decide_eq_false c6
       clear c6
       by_cases c9 : x5_1.length < 35184372088832
       ·rw [if_pos c9] at H
        have LMc9 := Aside0.mk c9
        clear c9
        obtain ⟨y241, hy241⟩ : ∃ y_ : List Int, y_ = (x5_1 ++ [(IntKind.u64.wrap ((IntKind.u64.wrap (rd l0 x7_1)) - (IntKind.u64.wrap (x6_1 + (IntKind.u64.wrap (rd l1 x7_1)))))) % 4294967296]) := ⟨_, rfl⟩
        try rw [← hy241] at H
        have Ny241 := Aside0.mk hy241
        clear hy241
        have H' := Aside0.mk H
        clear H
        have p236 : 0 ≤ (x7_1 : Int) := of_decide_eq_true (by first | (with_reducible assumption) | assumption)
        have q236 : x7_1 < (l1.length : Int) := of_decide_eq_true (by first | (with_reducible assumption) | assumption)
        obtain ⟨ad236, e236, hx236_0⟩ := Kd.at_int HR1.out x7_1 p236 q236
        cases e236
        replace hx236_0 := (HB.out.cell (World.block_lt_of_cell? w _ hx236_0)).trans hx236_0
        replace p236 := eq_true p236
        replace q236 := eq_true q236
        have p237 : 0 ≤ (x7_1 : Int) := of_decide_eq_true (by first | (with_reducible assumption) | assumption)
        have q237 : x7_1 < (l0.length : Int) := of_decide_eq_true (by first | (with_reducible assumption) | assumption)
        obtain ⟨ad237, e237, hx237_0⟩ := Kd.at_int HR0.out x7_1 p237 q237
        cases e237
        replace hx237_0 := (HB.out.cell (World.block_lt_of_cell? w _ hx237_0)).trans hx237_0
        replace p237 := eq_true p237
        replace q237 := eq_true q237
        go_wp2_with (first | ((with_reducible refine gate_builtin (b := .append) (xs := #[.tmp 38, .tmp 43]) rfl ?_); at_builtin; refine Kd.R_append (Kd.int .u32) (w0 := w) w.heap.size rfl (.tmp 38) (.tmp 43) 22 42 (.int .u32 0) 4 rfl Try.underlying22 info42 rfl (by decide) (by omega) u5 x5_1 ((IntKind.u64.wrap ((IntKind.u64.wrap (rd l0 x7_1)) - (IntKind.u64.wrap (x6_1 + (IntKind.u64.wrap (rd l1 x7_1)))))) % 4294967296) [.int .u32 ((IntKind.u64.wrap ((IntKind.u64.wrap (rd l0 x7_1)) - (IntKind.u64.wrap (x6_1 + (IntKind.u64.wrap (rd l1 x7_1)))))) % 4294967296)] (fun _ => True) (fun _ => False) rfl rfl ?aP (fun _ hk => hk.elim) ?aF ?aO ?aB ?aS ?aL ?_; (case aP => exact rfl); (case aB => exact (bU HB)); (case aF => exact (fun _ _ => trivial)); (case aO => exact (rU HO_5)); (case aS => exact (below_size (bU HB))); (case aL => have := LMc9.out; omega); intro v242 w10 ho hb hg hat; rw [← Ny241.out] at ho; replace HB := Aside0.mk (hb); have HO243 := Aside0.mk (ho); clear HO_5; clear ho hb hg hat))
        go_roundg k1
        case measure => have := HK1.out; omega
        case rel => exact ⟨(y241), (0), (wrap64 (x7_1 + 1)), es, es, H', ⟨by have := HK1.out; omega⟩, ⟨rU HO243⟩, ⟨bU HB⟩⟩
       ·rw [if_neg c9] at H
        exact absurd H (by simp)
     ·rw [if_neg c5] at H
      exact absurd H (by simp)
    ·rw [if_neg c4] at H
     have c4b0 := decide_eq_false c4
     clear c4
     by_cases c11 : 0 ≤ x7_1
     ·rw [if_pos c11] at H
      have c11b0 := decide_eq_true c11
      clear c11
      by_cases c12 : (IntKind.u64.wrap (rd l0 x7_1)) < x6_1
      ·rw [if_pos c12] at H
       have c12b0 := decide_eq_true c12
       clear c12
       by_cases c13 : x5_1.length < 35184372088832
       ·rw [if_pos c13] at H
        have LMc13 := Aside0.mk c13
        clear c13
        obtain ⟨y245, hy245⟩ : ∃ y_ : List Int, y_ = (x5_1 ++ [(IntKind.u64.wrap ((IntKind.u64.wrap ((IntKind.u64.wrap (rd l0 x7_1)) + 4294967296)) - x6_1)) % 4294967296]) := ⟨_, rfl⟩
        try rw [← hy245] at H
        have Ny245 := Aside0.mk hy245
        clear hy245
        have H' := Aside0.mk H
        clear H
        have p244 : 0 ≤ (x7_1 : Int) := of_decide_eq_true (by first | (with_reducible assumption) | assumption)
        have q244 : x7_1 < (l0.length : Int) := of_decide_eq_true (by first | (with_reducible assumption) | assumption)
        obtain ⟨ad244, e244, hx244_0⟩ := Kd.at_int HR0.out x7_1 p244 q244
        cases e244
        replace hx244_0 := (HB.out.cell (World.block_lt_of_cell? w _ hx244_0)).trans hx244_0
        replace p244 := eq_true p244
        replace q244 := eq_true q244
        go_wp2_with (first | ((with_reducible refine gate_builtin (b := .append) (xs := #[.tmp 38, .tmp 43]) rfl ?_); at_builtin; refine Kd.R_append (Kd.int .u32) (w0 := w) w.heap.size rfl (.tmp 38) (.tmp 43) 22 42 (.int .u32 0) 4 rfl Try.underlying22 info42 rfl (by decide) (by omega) u5 x5_1 ((IntKind.u64.wrap ((IntKind.u64.wrap ((IntKind.u64.wrap (rd l0 x7_1)) + 4294967296)) - x6_1)) % 4294967296) [.int .u32 ((IntKind.u64.wrap ((IntKind.u64.wrap ((IntKind.u64.wrap (rd l0 x7_1)) + 4294967296)) - x6_1)) % 4294967296)] (fun _ => True) (fun _ => False) rfl rfl ?aP (fun _ hk => hk.elim) ?aF ?aO ?aB ?aS ?aL ?_; (case aP => exact rfl); (case aB => exact (bU HB)); (case aF => exact (fun _ _ => trivial)); (case aO => exact (rU HO_5)); (case aS => exact (below_size (bU HB))); (case aL => have := LMc13.out; omega); intro v246 w14 ho hb hg hat; rw [← Ny245.out] at ho; replace HB := Aside0.mk (hb); have HO247 := Aside0.mk (ho); clear HO_5; clear ho hb hg hat))
        go_roundg k1
        case measure => have := HK1.out; omega
        case rel => exact ⟨(y245), (1), (wrap64 (x7_1 + 1)), es, es, H', ⟨by have := HK1.out; omega⟩, ⟨rU HO247⟩, ⟨bU HB⟩⟩
       ·rw [if_neg c13] at H
        exact absurd H (by simp)
      ·rw [if_neg c12] at H
       have c12b0 := decide_eq_false c12
       clear c12
       by_cases c15 : x5_1.length < 35184372088832
       ·rw [if_pos c15] at H
        have LMc15 := Aside0.mk c15
        clear c15
        obtain ⟨y248, hy248⟩ : ∃ y_ : List Int, y_ = (x5_1 ++ [(IntKind.u64.wrap ((IntKind.u64.wrap (rd l0 x7_1)) - x6_1)) % 4294967296]) := ⟨_, rfl⟩
        try rw [← hy248] at H
        have Ny248 := Aside0.mk hy248
        clear hy248
        have H' := Aside0.mk H
        clear H
        have p244 : 0 ≤ (x7_1 : Int) := of_decide_eq_true (by first | (with_reducible assumption) | assumption)
        have q244 : x7_1 < (l0.length : Int) := of_decide_eq_true (by first | (with_reducible assumption) | assumption)
        obtain ⟨ad244, e244, hx244_0⟩ := Kd.at_int HR0.out x7_1 p244 q244
        cases e244
        replace hx244_0 := (HB.out.cell (World.block_lt_of_cell? w _ hx244_0)).trans hx244_0
        replace p244 := eq_true p244
        replace q244 := eq_true q244
        go_wp2_with (first | ((with_reducible refine gate_builtin (b := .append) (xs := #[.tmp 38, .tmp 43]) rfl ?_); at_builtin; refine Kd.R_append (Kd.int .u32) (w0 := w) w.heap.size rfl (.tmp 38) (.tmp 43) 22 42 (.int .u32 0) 4 rfl Try.underlying22 info42 rfl (by decide) (by omega) u5 x5_1 ((IntKind.u64.wrap ((IntKind.u64.wrap (rd l0 x7_1)) - x6_1)) % 4294967296) [.int .u32 ((IntKind.u64.wrap ((IntKind.u64.wrap (rd l0 x7_1)) - x6_1)) % 4294967296)] (fun _ => True) (fun _ => False) rfl rfl ?aP (fun _ hk => hk.elim) ?aF ?aO ?aB ?aS ?aL ?_; (case aP => exact rfl); (case aB => exact (bU HB)); (case aF => exact (fun _ _ => trivial)); (case aO => exact (rU HO_5)); (case aS => exact (below_size (bU HB))); (case aL => have := LMc15.out; omega); intro v249 w16 ho hb hg hat; rw [← Ny248.out] at ho; replace HB := Aside0.mk (hb); have HO250 := Aside0.mk (ho); clear HO_5; clear ho hb hg hat))
        go_roundg k1
        case measure => have := HK1.out; omega
        case rel => exact ⟨(y248), (0), (wrap64 (x7_1 + 1)), es, es, H', ⟨by have := HK1.out; omega⟩, ⟨rU HO250⟩, ⟨bU HB⟩⟩
       ·rw [if_neg c15] at H
        exact absurd H (by simp)
     ·rw [if_neg c11] at H
      exact absurd H (by simp)
   ·rw [if_neg c3] at H
    have c3b0 := decide_eq_false c3
    clear c3
    replace H := oc H
    obtain ⟨t233, A17, H⟩ := H
    obtain rfl := Option.some.inj H
    obtain ⟨Ao18, co18, eo18⟩ := Kd.R_slice HO_5.out
    subst eo18
    go_wp2_with (first | ((with_reducible refine gc 42 rfl ?_); refine gL (some 46) Try.func42 #[.slice Ao18 x5_1.length co18] ?_; (with_reducible refine (cutplaneref01_Trim.calls k1 (fun k_ => some k_ = (.slice Ao18 x5_1.length co18 : Value).ownBlock) (.slice Ao18 x5_1.length co18) x5_1 t233 w _ ?side1 ?side2 A17.out).mono ?_); (case side1 => exact bU HB); (case side2 => exact Kd.R_tight rfl HO_5.out); rintro e w19 ⟨v234, rfl, ho0, hb, hkp⟩; refine ⟨_, rfl, ?_⟩; have HO235 := Aside0.mk (Kd.R_mono (ok' := fun k_ => True) ho0 (fun k_ hk_ => trivial)); replace HB := Aside0.mk (hb); clear HO_5; clear hb hkp ho0))
    go_ret
    exact ⟨_, by first | rfl | (simp [errW_none, errW_some] <;> rfl) | (simp [*, errW_none, errW_some] <;> rfl), rU HO235, bU HB⟩

end Go.Proofs.Ytldcelgbinenbaa.Px

namespace Go.Proofs.Ytldcelgbinenbaa.Px
open Go.RowKit Go.Proofs.YtldcelgbinenbaaW.PrintWords Go.Proofs.YtldcelgbinenbaaW.PrintLast Go.Proofs.YtldcelgbinenbaaW.PrintMore
attribute [local go_sem] max2_int min2_int max_two min_two max_three min_three max_four min_four   -- for this text's walks alone
set_option linter.unusedVariables false
set_option linter.unusedSimpArgs false

/-! ### cutplaneref01_Len: function 50 -/
def cutplaneref01_Len.l0 : Nat → Int → Int → Option (Int)
 | 0, _, _ => none
 | k + 1, x3, x4 => if x4 > 0 then (cutplaneref01_Len.l0 k (wrap64 (x3 + 1)) (x4 / 2)) else (some x3)
def cutplaneref01_Len.f (k : Nat) (l0 : List Int) : Option (Int) := if (l0.length : Int) = 0 then (some 0) else (if 0 ≤ (wrap64 ((l0.length : Int) - 1)) then (if (wrap64 ((l0.length : Int) - 1)) < (l0.length : Int) then (cutplaneref01_Len.l0 k (wrap64 (32 * (wrap64 ((l0.length : Int) - 1)))) (rd l0 (wrap64 ((l0.length : Int) - 1)))) else (none)) else (none))
theorem cutplaneref01_Len.mono_l : ∀ k, (∀ y0 y1, LeO (cutplaneref01_Len.l0 k y0 y1) (cutplaneref01_Len.l0 (k + 1) y0 y1))
 | 0 => fun _ _ r h => by simp [cutplaneref01_Len.l0] at h
 | k + 1 => by
  have ih0 := cutplaneref01_Len.mono_l k
  ·intro y0 y1
   unfold cutplaneref01_Len.l0
   repeat' (with_reducible first | exact ih0 _ _ | exact LeO.refl _ | exact LeO.none _ | refine LeO.ite ?_ ?_ | refine LeO.bind ?_ (fun _ => ?_))
theorem cutplaneref01_Len.mono : ∀ a0 k, LeO (cutplaneref01_Len.f k a0) (cutplaneref01_Len.f (k + 1) a0) := by
 intro a0 k
 have ih0 := cutplaneref01_Len.mono_l k
 unfold cutplaneref01_Len.f
 repeat' (with_reducible first | exact ih0 _ _ | exact LeO.refl _ | exact LeO.none _ | refine LeO.ite ?_ ?_ | refine LeO.bind ?_ (fun _ => ?_))
set_option maxHeartbeats 8000000 in
set_option maxRecDepth 100000 in
theorem cutplaneref01_Len.calls (k : Nat) (A0 : Option Addr) (c0 : Nat) (l0 : List Int) (r : Int) (w : World) (hr0 : Kd.C (Kd.int .u32) w A0 l0.length l0) (hc0 : l0.length ≤ c0) (h : cutplaneref01_Len.f k l0 = some r) :
  Calls Try.prog 50 #[.slice A0 l0.length c0] w fun e w' => e = .returned (.int .i64 r) ∧ Drawn0 w w' := by
 have HR0 := Aside0.mk hr0
 have HC0 := Aside0.mk hc0
 clear hr0 hc0
 have H := h
 unfold cutplaneref01_Len.f at H
 clear h
 by_cases c2 : (l0.length : Int) = 0
 ·rw [if_pos c2] at H
  have c2b0 : ((l0.length : Int) == 0) = true := beq_iff_eq.mpr c2
  have c2b1 : ((l0.length : Int) != 0) = false := bne_eq_false_iff_eq.mpr c2
  clear c2
  obtain rfl := Option.some.inj H
  go_enter Try.func50, Try.ntmps50
  go_wp2
  go_ret
  exact ⟨by first | rfl | (simp; done) | (simp [*]; done), by repeat (first | exact Drawn0.refl _ | apply Drawn0.step)⟩
 ·rw [if_neg c2] at H
  have c2b0 : ((l0.length : Int) == 0) = false := beq_eq_false_iff_ne.mpr c2
  have c2b1 : ((l0.length : Int) != 0) = true := bne_iff_ne.mpr c2
  have c2b2 : ¬ (l0 = []) := fun h_ => c2 (by rw [h_]; rfl)
  obtain ⟨ji3, hji3⟩ : ∃ j_ : Int, (wrap64 ((l0.length : Int) - 1)) = j_ := ⟨_, rfl⟩
  (first | rw [hji3] at H | simp only [hji3] at H)
  have hji3w : (IntKind.i64.wrap ((l0.length : Int) - 1)) = ji3 := (i64_w _).trans hji3
  by_cases c4 : 0 ≤ (ji3)
  ·rw [if_pos c4] at H
   have c4b0 := decide_eq_true c4
   clear c4
   by_cases c5 : (ji3) < (l0.length : Int)
   ·rw [if_pos c5] at H
    have c5b0 := decide_eq_true c5
    clear c5
    have H' := Aside0.mk H
    clear H
    have p417 : 0 ≤ ((ji3) : Int) := of_decide_eq_true (by first | (with_reducible assumption) | assumption)
    have q417 : (ji3) < (l0.length : Int) := of_decide_eq_true (by first | (with_reducible assumption) | assumption)
    obtain ⟨ad417, e417, hx417_0⟩ := Kd.at_int HR0.out (ji3) p417 q417
    cases e417
    replace p417 := eq_true p417
    replace q417 := eq_true q417
    go_enter Try.func50, Try.ntmps50
    go_wp2
    go_loopg [3, 4] k (fun kq v3 v4 w' => ∃ (x3_1 : Int) (x4_1 : Int), v3 = .int .i64 x3_1 ∧ v4 = .int .u32 x4_1 ∧ Aside0 (cutplaneref01_Len.l0 kq x3_1 x4_1 = some r) ∧ Aside0 (kq ≤ k) ∧ Drawn0 w w')
    case atStart => exact ⟨(wrap64 (32 * (ji3))), (rd l0 (ji3)), (by first | rfl | (simp; done) | (simp only [← hji3] <;> (first | rfl | simp)) | (simp [*]; done)), (by first | rfl | (simp; done) | (simp only [← hji3] <;> (first | rfl | simp)) | (simp [*]; done)), H', ⟨Nat.le_refl _⟩, by repeat (first | exact Drawn0.refl _ | apply Drawn0.step)⟩
    case round =>
     clear H'
     try clear c2; try clear c2b0; try clear c2b1; try clear c2b2; try clear p2; try clear c4; try clear c4b0; try clear p4; try clear q4; try clear hx4; try clear c5; try clear c5b0; try clear hx417_0; try clear p417; try clear q417
     obtain ⟨x3_1, x4_1, rfl, rfl, HA, HK1, ⟨m1, rfl⟩⟩ := hrel
     cases gk with
     | zero => exact absurd HA.out (by simp [cutplaneref01_Len.l0])
     | succ k1 =>
      have H := HA.out
      clear HA
      simp only [cutplaneref01_Len.l0] at H
      by_cases c6 : x4_1 > 0
      ·rw [if_pos c6] at H
       have c6b0 : decide (0 < x4_1) = true := decide_eq_true c6
       clear c6
       have H' := Aside0.mk H
       clear H
       go_wp2
       go_roundg k1
       case measure => have := HK1.out; omega
       case rel => exact ⟨(wrap64 (x3_1 + 1)), (x4_1 / 2), es, es, H', ⟨by have := HK1.out; omega⟩, by repeat (first | exact Drawn0.refl _ | apply Drawn0.step)⟩
      ·rw [if_neg c6] at H
       have c6b0 : decide (0 < x4_1) = false := decide_eq_false c6
       clear c6
       obtain rfl := Option.some.inj H
       go_wp2
       go_ret
       exact ⟨by first | rfl | (simp; done) | (simp only [← hji3] <;> (first | rfl | simp)) | (simp [*]; done), by repeat (first | exact Drawn0.refl _ | apply Drawn0.step)⟩
   ·rw [if_neg c5] at H
    exact absurd H (by simp)
  ·rw [if_neg c4] at H
   exact absurd H (by simp)

end Go.Proofs.Ytldcelgbinenbaa.Px

namespace Go.Proofs.Ytldcelgbinenbaa.Px
open Go.RowKit Go.Proofs.YtldcelgbinenbaaW.PrintWords Go.Proofs.YtldcelgbinenbaaW.PrintLast Go.Proofs.YtldcelgbinenbaaW.PrintMore
attribute [local go_sem] max2_int min2_int max_two min_two max_three min_three max_four min_four   -- for this text's walks alone
set_option linter.unusedVariables false
set_option linter.unusedSimpArgs false

/-! ### cutplaneref01_Bit: function 57 -/
def cutplaneref01_Bit.f (l0 : List Int) (a1 : Int) : Option (Int) := if a1 < 0 then (some 0) else (if (wrap64 (Int.tdiv a1 32)) ≥ (l0.length : Int) then (some 0) else (if 0 ≤ (wrap64 (Int.tdiv a1 32)) then (if (wrap64 (Int.tdiv a1 32)) < (l0.length : Int) then (if 0 ≤ (Int.tmod a1 32) then (some (Go.bits .and .u32 (shr .u32 (rd l0 (wrap64 (Int.tdiv a1 32))) (Int.tmod a1 32)) 1)) else (none)) else (none)) else (none)))
set_option maxHeartbeats 8000000 in
set_option maxRecDepth 100000 in
theorem cutplaneref01_Bit.calls (A0 : Option Addr) (c0 : Nat) (l0 : List Int) (a1 : Int) (r : Int) (w : World) (hr0 : Kd.C (Kd.int .u32) w A0 l0.length l0) (hc0 : l0.length ≤ c0) (h : cutplaneref01_Bit.f l0 a1 = some r) :
  Calls Try.prog 57 #[.slice A0 l0.length c0, .int .i64 a1] w fun e w' => e = .returned (.int .u32 r) ∧ Drawn0 w w' := by
 have HR0 := Aside0.mk hr0
 have HC0 := Aside0.mk hc0
 clear hr0 hc0
 have H := h
 unfold cutplaneref01_Bit.f at H
 clear h
 by_cases c3 : a1 < 0
 ·rw [if_pos c3] at H
  have c3b0 := decide_eq_true c3
  clear c3
  obtain rfl := Option.some.inj H
  go_enter Try.func57, Try.ntmps57
  go_wp2
  go_ret
  exact ⟨by first | rfl | (simp; done) | (simp [*]; done), by repeat (first | exact Drawn0.refl _ | apply Drawn0.step)⟩
 ·rw [if_neg c3] at H
  have c3b0 := decide_eq_false c3
  clear c3
  by_cases c4 : (wrap64 (Int.tdiv a1 32)) ≥ (l0.length : Int)
  ·rw [if_pos c4] at H
   have c4b0 : decide ((l0.length : Int) ≤ (wrap64 (Int.tdiv a1 32))) = true := decide_eq_true c4
   clear c4
   obtain rfl := Option.some.inj H
   go_enter Try.func57, Try.ntmps57
   go_wp2
   go_ret
   exact ⟨by first | rfl | (simp; done) | (simp [*]; done), by repeat (first | exact Drawn0.refl _ | apply Drawn0.step)⟩
  ·rw [if_neg c4] at H
   have c4b0 : decide ((l0.length : Int) ≤ (wrap64 (Int.tdiv a1 32))) = false := decide_eq_false c4
   clear c4
   obtain ⟨ji5, hji5⟩ : ∃ j_ : Int, (wrap64 (Int.tdiv a1 32)) = j_ := ⟨_, rfl⟩
   (first | rw [hji5] at H | simp only [hji5] at H)
   (try rw [hji5] at c4b0)
   have hji5w : (IntKind.i64.wrap (Int.tdiv a1 32)) = ji5 := (i64_w _).trans hji5
   by_cases c6 : 0 ≤ (ji5)
   ·rw [if_pos c6] at H
    have c6b0 := decide_eq_true c6
    clear c6
    by_cases c7 : (ji5) < (l0.length : Int)
    ·rw [if_pos c7] at H
     have c7b0 := decide_eq_true c7
     clear c7
     obtain ⟨ji8, hji8⟩ : ∃ j_ : Int, (Int.tmod a1 32) = j_ := ⟨_, rfl⟩
     (first | rw [hji8] at H | simp only [hji8] at H)
     by_cases c9 : 0 ≤ (ji8)
     ·rw [if_pos c9] at H
      have c9b0 := eq_true c9
      have c9b1 := decide_eq_true c9
      clear c9
      obtain ⟨ji10, hji10⟩ : ∃ j_ : Int, (shr .u32 (rd l0 (ji5)) (ji8)) = j_ := ⟨_, rfl⟩
      (first | rw [hji10] at H | simp only [hji10] at H)
      have hji10_ : ((rd l0 (ji5)) / 2 ^ min (ji8).toNat 32) = ji10 := hji10
      have hji10z : (ji8) ≤ 32 → ((rd l0 (ji5)) / 2 ^ (ji8).toNat) = ji10 := shr_small hji10
      obtain rfl := Option.some.inj H
      have p666 : 0 ≤ ((ji5) : Int) := of_decide_eq_true (by first | (with_reducible assumption) | assumption)
      have q666 : (ji5) < (l0.length : Int) := of_decide_eq_true (by first | (with_reducible assumption) | assumption)
      obtain ⟨ad666, e666, hx666_0⟩ := Kd.at_int HR0.out (ji5) p666 q666
      cases e666
      replace p666 := eq_true p666
      replace q666 := eq_true q666
      go_enter Try.func57, Try.ntmps57
      go_wp2
      go_ret
      exact ⟨by first | rfl | (simp; done) | (simp only [← hji5, ← hji8, ← hji10] <;> (first | rfl | simp)) | (simp [*]; done), by repeat (first | exact Drawn0.refl _ | apply Drawn0.step)⟩
     ·rw [if_neg c9] at H
      exact absurd H (by simp)
    ·rw [if_neg c7] at H
     exact absurd H (by simp)
   ·rw [if_neg c6] at H
    exact absurd H (by simp)

end Go.Proofs.Ytldcelgbinenbaa.Px

namespace Go.Proofs.Ytldcelgbinenbaa.Px
open Go.RowKit Go.Proofs.YtldcelgbinenbaaW.PrintWords Go.Proofs.YtldcelgbinenbaaW.PrintLast Go.Proofs.YtldcelgbinenbaaW.PrintMore
attribute [local go_sem] max2_int min2_int max_two min_two max_three min_three max_four min_four   -- for this text's walks alone
set_option linter.unusedVariables false
set_option linter.unusedSimpArgs false

/-! ### cutplaneref01_Up: function 56 -/
def cutplaneref01_Up.l0 : Nat → List Int → List Int → Int → Int → Int → Option (List Int)
 | 0, _, _, _, _, _ => none
 | k + 1, x0, x5, x6, x7, x8 => if x8 < (x0.length : Int) then (if 0 ≤ x8 then (if 0 ≤ x6 then (if x5.length < 35184372088832 then (cutplaneref01_Up.l0 k x0 (x5 ++ [(Go.bits .or .u64 x7 (shl .u64 (IntKind.u64.wrap (rd x0 x8)) x6)) % 4294967296]) x6 ((Go.bits .or .u64 x7 (shl .u64 (IntKind.u64.wrap (rd x0 x8)) x6)) / 4294967296) (wrap64 (x8 + 1))) else (none)) else (none)) else (none)) else (if x5.length < 35184372088832 then ((cutplaneref01_Trim.f k (x5 ++ [(x7) % 4294967296])).bind fun t692 => (some t692)) else (none))
def cutplaneref01_Up.f (k : Nat) (l0 : List Int) (a1 : Int) : Option (List Int) := if (l0.length : Int) = 0 then (some ([] : List Int)) else (if 0 ≤ (wrap64 (Int.tdiv a1 32)) then (if (wrap64 (Int.tdiv a1 32) : Int).toNat ≤ 70368744177664 then (cutplaneref01_Up.l0 k l0 (List.replicate (wrap64 (Int.tdiv a1 32) : Int).toNat 0) (Int.tmod a1 32) 0 0) else (none)) else (none))
theorem cutplaneref01_Up.mono_l : ∀ k, (∀ y0 y1 y2 y3 y4, LeO (cutplaneref01_Up.l0 k y0 y1 y2 y3 y4) (cutplaneref01_Up.l0 (k + 1) y0 y1 y2 y3 y4))
 | 0 => fun _ _ _ _ _ r h => by simp [cutplaneref01_Up.l0] at h
 | k + 1 => by
  have ih0 := cutplaneref01_Up.mono_l k
  ·intro y0 y1 y2 y3 y4
   unfold cutplaneref01_Up.l0
   repeat' (with_reducible first | exact ih0 _ _ _ _ _ | exact cutplaneref01_Trim.mono _ _ | exact LeO.refl _ | exact LeO.none _ | refine LeO.ite ?_ ?_ | refine LeO.bind ?_ (fun _ => ?_))
theorem cutplaneref01_Up.mono : ∀ a0 a1 k, LeO (cutplaneref01_Up.f k a0 a1) (cutplaneref01_Up.f (k + 1) a0 a1) := by
 intro a0 a1 k
 have ih0 := cutplaneref01_Up.mono_l k
 unfold cutplaneref01_Up.f
 repeat' (with_reducible first | exact ih0 _ _ _ _ _ | exact cutplaneref01_Trim.mono _ _ | exact LeO.refl _ | exact LeO.none _ | refine LeO.ite ?_ ?_ | refine LeO.bind ?_ (fun _ => ?_))
set_option maxHeartbeats 8000000 in
set_option maxRecDepth 100000 in
theorem cutplaneref01_Up.calls (k : Nat) (A0 : Option Addr) (c0 : Nat) (l0 : List Int) (a1 : Int) (r : List Int) (w : World) (hr0 : Kd.C (Kd.int .u32) w A0 l0.length l0) (hc0 : l0.length ≤ c0) (h : cutplaneref01_Up.f k l0 a1 = some r) :
  Calls Try.prog 56 #[.slice A0 l0.length c0, .int .i64 a1] w fun e w' => ∃ v0_ : Value, e = .returned (v0_) ∧ Kd.R (Kd.int .u32) 42 w' w.heap.size (fun _ => True) v0_ r ∧ Below w.heap.size w w' := by
 have HR0 := Aside0.mk hr0
 have HC0 := Aside0.mk hc0
 clear hr0 hc0
 have HB := Aside0.mk (Below.refl w.heap.size w)
 have H := h
 unfold cutplaneref01_Up.f at H
 clear h
 by_cases c3 : (l0.length : Int) = 0
 ·rw [if_pos c3] at H
  have c3b0 : ((l0.length : Int) == 0) = true := beq_iff_eq.mpr c3
  have c3b1 : ((l0.length : Int) != 0) = false := bne_eq_false_iff_eq.mpr c3
  clear c3
  obtain rfl := Option.some.inj H
  go_enter Try.func56, Try.ntmps56
  go_wp2
  go_ret
  exact ⟨_, by first | rfl | (simp [errW_none, errW_some] <;> rfl) | (simp [*, errW_none, errW_some] <;> rfl), by first | exact Kd.R_nil _ _ _ _ _ | exact Kd.N_nil _ _ _ _ _ | exact Kd.V_nil _ _ _ _ _ | exact Kd.Q_nil _ _ _ _ _ | exact Kd.S_nil _ _ _ _ _, bU HB⟩
 ·rw [if_neg c3] at H
  have c3b0 : ((l0.length : Int) == 0) = false := beq_eq_false_iff_ne.mpr c3
  have c3b1 : ((l0.length : Int) != 0) = true := bne_iff_ne.mpr c3
  have c3b2 : ¬ (l0 = []) := fun h_ => c3 (by rw [h_]; rfl)
  obtain ⟨ji4, hji4⟩ : ∃ j_ : Int, (wrap64 (Int.tdiv a1 32)) = j_ := ⟨_, rfl⟩
  (first | rw [hji4] at H | simp only [hji4] at H)
  have hji4w : (IntKind.i64.wrap (Int.tdiv a1 32)) = ji4 := (i64_w _).trans hji4
  by_cases c5 : 0 ≤ (ji4)
  ·rw [if_pos c5] at H
   have c5b0 := eq_true c5
   have c5b1 := decide_eq_true c5
   clear c5
   by_cases c6 : (ji4 : Int).toNat ≤ 70368744177664
   ·rw [if_pos c6] at H
    have c6b0 := eq_true c6
    have c6b1 := decide_eq_true c6
    clear c6
    obtain ⟨y682, hy682⟩ : ∃ y_ : List Int, y_ = (List.replicate (ji4 : Int).toNat 0) := ⟨_, rfl⟩
    try rw [← hy682] at H
    have Ny682 := Aside0.mk hy682
    clear hy682
    have H' := Aside0.mk H
    clear H
    go_enter Try.func56, Try.ntmps56
    go_wp2_with (first | ((with_reducible refine gate_dst (N := 14) rfl ?_); refine Kd.R_make (Kd.int .u32) _ 42 rfl (N := 14) rfl 22 _ _ rfl ji4 (by first | rfl | (rw [← hji4]; rfl)) (by first | rfl | (rw [← hji4]; rfl)) Try.underlying22 (.int .u32 0) 4 info42 rfl (by decide) (by omega) 0 (ok := fun _ => True) (okp := fun _ => True) rfl (fun _ hk => hk) trivial od (Nat.le_trans (Nat.mul_le_mul_right _ (of_decide_eq_true (by first | (with_reducible assumption) | assumption) : ji4.toNat ≤ 70368744177664)) (by omega)) (Below.refl _ _) (Nat.le_refl _) ?_; intro v683 w7 ho8 hb hg_ hnew_; clear hg_ hnew_; (first | rw [← Ny682.out] at ho8 | (simp only [Int.reduceToNat] at ho8; rw [← Ny682.out] at ho8)); have HO684 := rL ho8 HB; replace HB := bS HB hb; clear hb ho8))
    go_loopg [5, 7, 8] k (fun kq v5 v7 v8 w' => ∃ (x5_1 : List Int) (x7_1 : Int) (x8_1 : Int), v7 = .int .u64 x7_1 ∧ v8 = .int .i64 x8_1 ∧ Aside0 (cutplaneref01_Up.l0 kq l0 x5_1 (Int.tmod a1 32) x7_1 x8_1 = some r) ∧ Aside0 (kq ≤ k) ∧ Aside0 (Kd.R (Kd.int .u32) 42 w' w.heap.size (fun _ => True) v5 x5_1) ∧ Aside0 (Below w.heap.size w w'))
    case atStart => exact ⟨(y682), (0), (0), es, es, H', ⟨Nat.le_refl _⟩, ⟨rU HO684⟩, ⟨bU HB⟩⟩
    case round =>
     clear H'
     try clear p2; try clear c3; try clear c3b0; try clear c3b1; try clear c3b2; try clear c5; try clear c5b0; try clear c5b1; try clear c6; try clear c6b0; try clear c6b1; try clear p6
     obtain ⟨x5_1, x7_1, x8_1, rfl, rfl, HA, HK1, HO_5, HB⟩ := hrel
     cases gk with
     | zero => exact absurd HA.out (by simp [cutplaneref01_Up.l0])
     | succ k1 =>
      have H := HA.out
      clear HA
      simp only [cutplaneref01_Up.l0] at H
      by_cases c9 : x8_1 < (l0.length : Int)
      ·rw [if_pos c9] at H
       have c9b0 := decide_eq_true c9
       clear c9
       by_cases c10 : 0 ≤ x8_1
       ·rw [if_pos c10] at H
        have c10b0 := decide_eq_true c10
        clear c10
        obtain ⟨ji11, hji11⟩ : ∃ j_ : Int, (Int.tmod a1 32) = j_ := ⟨_, rfl⟩
        (first | rw [hji11] at H | simp only [hji11] at H)
        by_cases c12 : 0 ≤ (ji11)
        ·rw [if_pos c12] at H
         have c12b0 := eq_true c12
         have c12b1 := decide_eq_true c12
         clear c12
         obtain ⟨ji13, hji13⟩ : ∃ j_ : Int, (shl .u64 (IntKind.u64.wrap (rd l0 x8_1)) (ji11)) = j_ := ⟨_, rfl⟩
         (first | rw [hji13] at H | simp only [hji13] at H)
         have hji13_ : (IntKind.u64.wrap ((IntKind.u64.wrap (rd l0 x8_1)) * 2 ^ min (ji11).toNat 64)) = ji13 := hji13
         have hji13z : (ji11) ≤ 64 → (IntKind.u64.wrap ((IntKind.u64.wrap (rd l0 x8_1)) * 2 ^ (ji11).toNat)) = ji13 := shl_small hji13
         by_cases c14 : x5_1.length < 35184372088832
         ·rw [if_pos c14] at H
          have LMc14 := Aside0.mk c14
          clear c14
          obtain ⟨y686, hy686⟩ : ∃ y_ : List Int, y_ = (x5_1 ++ [(Go.bits .or .u64 x7_1 (ji13)) % 4294967296]) := ⟨_, rfl⟩
          try rw [← hy686] at H
          have Ny686 := Aside0.mk hy686
          clear hy686
          have H' := Aside0.mk H
          clear H
          have p685 : 0 ≤ (x8_1 : Int) := of_decide_eq_true (by first | (with_reducible assumption) | assumption)
          have q685 : x8_1 < (l0.length : Int) := of_decide_eq_true (by first | (with_reducible assumption) | assumption)
          obtain ⟨ad685, e685, hx685_0⟩ := Kd.at_int HR0.out x8_1 p685 q685
          cases e685
          replace hx685_0 := (HB.out.cell (World.block_lt_of_cell? w _ hx685_0)).trans hx685_0
          replace p685 := eq_true p685
          replace q685 := eq_true q685
          go_wp2_with (first | ((with_reducible refine gate_builtin (b := .append) (xs := #[.tmp 32, .tmp 35]) rfl ?_); at_builtin; refine Kd.R_append (Kd.int .u32) (w0 := w) w.heap.size rfl (.tmp 32) (.tmp 35) 22 42 (.int .u32 0) 4 rfl Try.underlying22 info42 rfl (by decide) (by omega) u5 x5_1 ((Go.bits .or .u64 x7_1 (ji13)) % 4294967296) [.int .u32 ((Go.bits .or .u64 x7_1 (ji13)) % 4294967296)] (fun _ => True) (fun _ => False) rfl rfl ?aP (fun _ hk => hk.elim) ?aF ?aO ?aB ?aS ?aL ?_; (case aP => exact rfl); (case aB => exact (bU HB)); (case aF => exact (fun _ _ => trivial)); (case aO => exact (rU HO_5)); (case aS => exact (below_size (bU HB))); (case aL => have := LMc14.out; omega); intro v687 w15 ho hb hg hat; rw [← Ny686.out] at ho; replace HB := Aside0.mk (hb); have HO688 := Aside0.mk (ho); clear HO_5; clear ho hb hg hat))
          (try simp only [← hji11] at H' ⊢)
          go_roundg k1
          case measure => have := HK1.out; omega
          case rel => exact ⟨(y686), ((Go.bits .or .u64 x7_1 (ji13)) / 4294967296), (wrap64 (x8_1 + 1)), (by first | rfl | (simp; done) | (simp only [← hji13] <;> (first | rfl | simp)) | (simp [*]; done)), es, H', ⟨by have := HK1.out; omega⟩, ⟨rU HO688⟩, ⟨bU HB⟩⟩
         ·rw [if_neg c14] at H
          exact absurd H (by simp)
        ·rw [if_neg c12] at H
         exact absurd H (by simp)
       ·rw [if_neg c10] at H
        exact absurd H (by simp)
      ·rw [if_neg c9] at H
       have c9b0 := decide_eq_false c9
       clear c9
       by_cases c16 : x5_1.length < 35184372088832
       ·rw [if_pos c16] at H
        have LMc16 := Aside0.mk c16
        clear c16
        obtain ⟨y689, hy689⟩ : ∃ y_ : List Int, y_ = (x5_1 ++ [(x7_1) % 4294967296]) := ⟨_, rfl⟩
        try rw [← hy689] at H
        have Ny689 := Aside0.mk hy689
        clear hy689
        replace H := oc H
        obtain ⟨t692, A17, H⟩ := H
        obtain rfl := Option.some.inj H
        go_wp2_with (first | ((with_reducible refine gate_builtin (b := .append) (xs := #[.tmp 39, .tmp 42]) rfl ?_); at_builtin; refine Kd.R_append (Kd.int .u32) (w0 := w) w.heap.size rfl (.tmp 39) (.tmp 42) 22 42 (.int .u32 0) 4 rfl Try.underlying22 info42 rfl (by decide) (by omega) u5 x5_1 ((x7_1) % 4294967296) [.int .u32 ((x7_1) % 4294967296)] (fun _ => True) (fun _ => False) rfl rfl ?aP (fun _ hk => hk.elim) ?aF ?aO ?aB ?aS ?aL ?_; (case aP => exact rfl); (case aB => exact (bU HB)); (case aF => exact (fun _ _ => trivial)); (case aO => exact (rU HO_5)); (case aS => exact (below_size (bU HB))); (case aL => have := LMc16.out; omega); intro v690 w18 ho hb hg hat; rw [← Ny689.out] at ho; replace HB := Aside0.mk (hb); have HO691 := Aside0.mk (ho); clear HO_5; clear ho hb hg hat; obtain ⟨Ao19, co19, rfl⟩ := Kd.R_slice HO691.out) | ((with_reducible refine gc 42 rfl ?_); refine gL (some 44) Try.func42 #[.slice Ao19 y689.length co19] ?_; (with_reducible refine (cutplaneref01_Trim.calls k1 (fun k_ => some k_ = (.slice Ao19 y689.length co19 : Value).ownBlock) (.slice Ao19 y689.length co19) y689 t692 w _ ?side1 ?side2 A17.out).mono ?_); (case side1 => exact bU HB); (case side2 => exact Kd.R_tight rfl HO691.out); rintro e w20 ⟨v693, rfl, ho0, hb, hkp⟩; refine ⟨_, rfl, ?_⟩; have HO694 := Aside0.mk (Kd.R_mono (ok' := fun k_ => True) ho0 (fun k_ hk_ => trivial)); replace HB := Aside0.mk (hb); clear HO691; clear hb hkp ho0))
        go_ret
        exact ⟨_, by first | rfl | (simp [errW_none, errW_some] <;> rfl) | (simp only [← hji4]; first | rfl | (simp [errW_none, errW_some] <;> rfl)) | (simp [*, errW_none, errW_some] <;> rfl), rU HO694, bU HB⟩
       ·rw [if_neg c16] at H
        exact absurd H (by simp)
   ·rw [if_neg c6] at H
    exact absurd H (by simp)
  ·rw [if_neg c5] at H
   exact absurd H (by simp)

end Go.Proofs.Ytldcelgbinenbaa.Px

namespace Go.Proofs.Ytldcelgbinenbaa.Px
open Go.RowKit Go.Proofs.YtldcelgbinenbaaW.PrintWords Go.Proofs.YtldcelgbinenbaaW.PrintLast Go.Proofs.YtldcelgbinenbaaW.PrintMore
attribute [local go_sem] max2_int min2_int max_two min_two max_three min_three max_four min_four   -- for this text's walks alone
set_option linter.unusedVariables false
set_option linter.unusedSimpArgs false

/-! ### cutplaneref01_Root: function 40 -/
mutual
def cutplaneref01_Root.j0 : Nat → List Int → List Int → List Int → Int → Option (List Int × Bool)
 | 0, _, _, _, _ => none
 | k + 1, x0, x4, x5, x6 => cutplaneref01_Root.l0 k x0 x4 x5 (wrap64 (x6 - 2))
def cutplaneref01_Root.l0 : Nat → List Int → List Int → List Int → Int → Option (List Int × Bool)
 | 0, _, _, _, _ => none
 | k + 1, x0, x4, x5, x7 => if x7 ≥ 0 then ((cutplaneref01_Up.f k x5 2).bind fun t861 => ((cutplaneref01_Bit.f x0 (wrap64 (x7 + 1))).bind fun t864 => ((cutplaneref01_Bit.f x0 x7).bind fun t865 => ((cutplaneref01_Of.f k (((2 * t864) + t865) % 4294967296)).bind fun t866 => ((cutplaneref01_Add.f k t861 t866).bind fun t869 => ((cutplaneref01_Up.f k x4 2).bind fun t872 => ((cutplaneref01_Add.f k t872 (([1] : List Int))).bind fun t878 => ((cutplaneref01_Up.f k x4 1).bind fun t881 => ((cutplaneref01_Cmp.f k t869 t878).bind fun t884 => (if t884 ≥ 0 then ((cutplaneref01_Sub.f k t869 t878).bind fun t885 => ((cutplaneref01_Add.f k t881 (([1] : List Int))).bind fun t891 => (cutplaneref01_Root.l0 k x0 t891 t885 (wrap64 (x7 - 2))))) else (cutplaneref01_Root.l0 k x0 t881 t869 (wrap64 (x7 - 2))))))))))))) else (some (x4, ((x5.length : Int) == 0)))
end
def cutplaneref01_Root.f (k : Nat) (l0 : List Int) : Option (List Int × Bool) := (cutplaneref01_Len.f k l0).bind fun t860 => (if (Int.tmod t860 2) = 1 then (cutplaneref01_Root.j0 k l0 ([] : List Int) ([] : List Int) (wrap64 (t860 + 1))) else (cutplaneref01_Root.j0 k l0 ([] : List Int) ([] : List Int) t860))
theorem cutplaneref01_Root.mono_l : ∀ k, (∀ y0 y1 y2 y3, LeO (cutplaneref01_Root.j0 k y0 y1 y2 y3) (cutplaneref01_Root.j0 (k + 1) y0 y1 y2 y3)) ∧ (∀ y0 y1 y2 y3, LeO (cutplaneref01_Root.l0 k y0 y1 y2 y3) (cutplaneref01_Root.l0 (k + 1) y0 y1 y2 y3))
 | 0 => ⟨fun _ _ _ _ r h => by simp [cutplaneref01_Root.j0] at h, fun _ _ _ _ r h => by simp [cutplaneref01_Root.l0] at h⟩
 | k + 1 => by
  obtain ⟨ih0, ih1⟩ := cutplaneref01_Root.mono_l k
  refine ⟨?_, ?_⟩
  ·intro y0 y1 y2 y3
   unfold cutplaneref01_Root.j0
   repeat' (with_reducible first | exact ih0 _ _ _ _ | exact ih1 _ _ _ _ | exact cutplaneref01_Add.mono _ _ _ | exact cutplaneref01_Cmp.mono _ _ _ | exact cutplaneref01_Len.mono _ _ | exact cutplaneref01_Of.mono _ _ | exact cutplaneref01_Sub.mono _ _ _ | exact cutplaneref01_Up.mono _ _ _ | exact LeO.refl _ | exact LeO.none _ | refine LeO.ite ?_ ?_ | refine LeO.bind ?_ (fun _ => ?_))
  ·intro y0 y1 y2 y3
   unfold cutplaneref01_Root.l0
   repeat' (with_reducible first | exact ih0 _ _ _ _ | exact ih1 _ _ _ _ | exact cutplaneref01_Add.mono _ _ _ | exact cutplaneref01_Cmp.mono _ _ _ | exact cutplaneref01_Len.mono _ _ | exact cutplaneref01_Of.mono _ _ | exact cutplaneref01_Sub.mono _ _ _ | exact cutplaneref01_Up.mono _ _ _ | exact LeO.refl _ | exact LeO.none _ | refine LeO.ite ?_ ?_ | refine LeO.bind ?_ (fun _ => ?_))
theorem cutplaneref01_Root.mono : ∀ a0 k, LeO (cutplaneref01_Root.f k a0) (cutplaneref01_Root.f (k + 1) a0) := by
 intro a0 k
 obtain ⟨ih0, ih1⟩ := cutplaneref01_Root.mono_l k
 unfold cutplaneref01_Root.f
 repeat' (with_reducible first | exact ih0 _ _ _ _ | exact ih1 _ _ _ _ | exact cutplaneref01_Add.mono _ _ _ | exact cutplaneref01_Cmp.mono _ _ _ | exact cutplaneref01_Len.mono _ _ | exact cutplaneref01_Of.mono _ _ | exact cutplaneref01_Sub.mono _ _ _ | exact cutplaneref01_Up.mono _ _ _ | exact LeO.refl _ | exact LeO.none _ | refine LeO.ite ?_ ?_ | refine LeO.bind ?_ (fun _ => ?_))
set_option maxHeartbeats 8000000 in
set_option maxRecDepth 100000 in
theorem cutplaneref01_Root.calls (k : Nat) (A0 : Option Addr) (c0 : Nat) (l0 : List Int) (r1 : List Int) (r2 : Bool) (w : World) (hr0 : Kd.C (Kd.int .u32) w A0 l0.length l0) (hc0 : l0.length ≤ c0) (h : cutplaneref01_Root.f k l0 = some (r1, r2)) :
  Calls Try.prog 40 #[.slice A0 l0.length c0] w fun e w' => ∃ v0_ : Value, e = .returned (.tuple #[v0_, .bool r2]) ∧ Kd.R (Kd.int .u32) 42 w' w.heap.size (fun _ => True) v0_ r1 ∧ Below w.heap.size w w' := by
 have HR0 := Aside0.mk hr0
 have HC0 := Aside0.mk hc0
 clear hr0 hc0
 have HB := Aside0.mk (Below.refl w.heap.size w)
 have H := h
 unfold cutplaneref01_Root.f at H
 clear h
 replace H := oc H
 obtain ⟨t860, A2, H⟩ := H
 have HC3 := Aside0.mk H
 clear H
 go_enter Try.func40, Try.ntmps40
 go_upto_if 13 with (first | ((with_reducible refine gc 50 rfl ?_); refine gL (some 10) Try.func50 #[.slice A0 l0.length c0] ?_; (with_reducible refine (cutplaneref01_Len.calls k _ _ l0 t860 _ ?side1 ?side2 A2.out).mono ?_); (case side1 => exact cU HR0); (case side2 => exact HC0.out); rintro e w' ⟨rfl, ⟨nd, rfl⟩⟩; refine ⟨_, rfl, ?_⟩))
 (try simp only [Act.put, List.setIfInBounds_toArray, List.set_cons_zero, List.set_cons_succ])
 go_cut [6] (fun v6 wc => ∃ (kq : Nat) (x6_2 : Int), v6 = .int .i64 x6_2 ∧ Aside0 (cutplaneref01_Root.j0 kq l0 ([] : List Int) ([] : List Int) x6_2 = some (r1, r2)) ∧ Aside0 (kq ≤ k) ∧ Aside0 (Kd.R (Kd.int .u32) 42 wc w.heap.size (fun k_ => some k_ ≠ ((.slice none 0 0) : Value).ownBlock) (.slice none 0 0) ([] : List Int)) ∧ Aside0 (Kd.R (Kd.int .u32) 42 wc w.heap.size (fun k_ => some k_ ≠ ((.slice none 0 0) : Value).ownBlock) (.slice none 0 0) ([] : List Int)) ∧ Aside0 (Below w.heap.size w wc))
 case first =>
  have H := HC3.out
  clear HC3
  by_cases c4 : (Int.tmod t860 2) = 1
  ·rw [if_pos c4] at H
   have c4b0 : ((Int.tmod t860 2) == 1) = true := beq_iff_eq.mpr c4
   have c4b1 : ((Int.tmod t860 2) != 1) = false := bne_eq_false_iff_eq.mpr c4
   clear c4
   (first | rw [c4b0] | rw [c4b1] | (simp only [i64_w, i32_w]; rw [c4b0]) | skip)
   have H' := Aside0.mk H
   clear H
   go_wp2
   go_meet
   case rel => exact ⟨_, (wrap64 (t860 + 1)), es, H', ⟨by first | omega | exact Nat.le_refl _⟩, ⟨by first | exact Kd.R_nil _ _ _ _ _ | exact Kd.N_nil _ _ _ _ _ | exact Kd.V_nil _ _ _ _ _ | exact Kd.Q_nil _ _ _ _ _ | exact Kd.S_nil _ _ _ _ _⟩, ⟨by first | exact Kd.R_nil _ _ _ _ _ | exact Kd.N_nil _ _ _ _ _ | exact Kd.V_nil _ _ _ _ _ | exact Kd.Q_nil _ _ _ _ _ | exact Kd.S_nil _ _ _ _ _⟩, ⟨bU HB⟩⟩
  ·rw [if_neg c4] at H
   have c4b0 : ((Int.tmod t860 2) == 1) = false := beq_eq_false_iff_ne.mpr c4
   have c4b1 : ((Int.tmod t860 2) != 1) = true := bne_iff_ne.mpr c4
   (first | rw [c4b0] | rw [c4b1] | (simp only [i64_w, i32_w]; rw [c4b0]) | skip)
   have H' := Aside0.mk H
   clear H
   go_wp2
   go_meet
   case rel => exact ⟨_, (t860), es, H', ⟨by first | omega | exact Nat.le_refl _⟩, ⟨by first | exact Kd.R_nil _ _ _ _ _ | exact Kd.N_nil _ _ _ _ _ | exact Kd.V_nil _ _ _ _ _ | exact Kd.Q_nil _ _ _ _ _ | exact Kd.S_nil _ _ _ _ _⟩, ⟨by first | exact Kd.R_nil _ _ _ _ _ | exact Kd.N_nil _ _ _ _ _ | exact Kd.V_nil _ _ _ _ _ | exact Kd.Q_nil _ _ _ _ _ | exact Kd.S_nil _ _ _ _ _⟩, ⟨bU HB⟩⟩
 case rest =>
  clear HC3
  try clear p2; try clear c4; try clear c4b0; try clear c4b1
  obtain ⟨kq, x6_2, rfl, HA, HJ2, HO_4, HO_5, HB⟩ := hcut
  cases kq with
  | zero => exact absurd HA.out (by simp [cutplaneref01_Root.j0])
  | succ kj2 =>
   have H := HA.out
   clear HA
   simp only [cutplaneref01_Root.j0] at H
   have H' := Aside0.mk H
   clear H
   go_wp2
   go_loopg [4, 5, 7] kj2 (fun kq v4 v5 v7 w' => ∃ (x4_2 : List Int) (x5_2 : List Int) (x7_2 : Int), v7 = .int .i64 x7_2 ∧ Aside0 (cutplaneref01_Root.l0 kq l0 x4_2 x5_2 x7_2 = some (r1, r2)) ∧ Aside0 (kq ≤ kj2) ∧ Aside0 (Kd.R (Kd.int .u32) 42 w' w.heap.size (fun _ => True) v4 x4_2) ∧ Aside0 (Kd.R (Kd.int .u32) 42 w' w.heap.size (fun _ => True) v5 x5_2) ∧ Aside0 (Below w.heap.size w w'))
   case atStart => exact ⟨(([] : List Int)), (([] : List Int)), (wrap64 (x6_2 - 2)), es, H', ⟨Nat.le_refl _⟩, ⟨by (with_reducible repeat (first | apply Kd.R_alloc | apply Kd.R_drewN | apply Kd.R_drew)); exact Kd.R_mono HO_4.out (fun _ hk => trivial)⟩, ⟨by (with_reducible repeat (first | apply Kd.R_alloc | apply Kd.R_drewN | apply Kd.R_drew)); exact Kd.R_mono HO_5.out (fun _ hk => trivial)⟩, ⟨bU HB⟩⟩
   case round =>
    clear H'
    try clear p2; try clear c4; try clear c4b0; try clear c4b1; try clear p2
    obtain ⟨x4_2, x5_2, x7_2, rfl, HA, HK2, HO_4, HO_5, HB⟩ := hrel
    cases gk with
    | zero => exact absurd HA.out (by simp [cutplaneref01_Root.l0])
    | succ k2 =>
     have H := HA.out
     clear HA
     simp only [cutplaneref01_Root.l0] at H
     by_cases c5 : x7_2 ≥ 0
     ·rw [if_pos c5] at H
      have c5b0 : decide (0 ≤ x7_2) = true := decide_eq_true c5
      clear c5
      replace H := oc H
      obtain ⟨t861, A6, H⟩ := H
      replace H := oc H
      obtain ⟨t864, A7, H⟩ := H
      replace H := oc H
      obtain ⟨t865, A8, H⟩ := H
      replace H := oc H
      obtain ⟨t866, A9, H⟩ := H
      replace H := oc H
      obtain ⟨t869, A10, H⟩ := H
      replace H := oc H
      obtain ⟨t872, A11, H⟩ := H
      obtain ⟨y875, hy875⟩ : ∃ y_ : List Int, y_ = (([1] : List Int)) := ⟨_, rfl⟩
      replace H : ((cutplaneref01_Add.f k2 t872 y875).bind fun t878 => ((cutplaneref01_Up.f k2 x4_2 1).bind fun t881 => ((cutplaneref01_Cmp.f k2 t869 t878).bind fun t884 => (if t884 ≥ 0 then ((cutplaneref01_Sub.f k2 t869 t878).bind fun t885 => ((cutplaneref01_Add.f k2 t881 (([1] : List Int))).bind fun t891 => (cutplaneref01_Root.l0 k2 l0 t891 t885 (wrap64 (x7_2 - 2))))) else (cutplaneref01_Root.l0 k2 l0 t881 t869 (wrap64 (x7_2 - 2))))))) = some (r1, r2) := by first | (rw [hy875]; with_reducible exact H) | (have H2_ := (Option.bind_some _ _).symm.trans H; rw [hy875]; with_reducible exact H2_) | (have H2_ := (Option.bind_some _ _).symm.trans H; with_reducible exact H2_) | with_reducible exact H | (rw [hy875]; exact H) | exact H
      have Ny875 := Aside0.mk hy875
      clear hy875
      replace H := oc H
      obtain ⟨t878, A12, H⟩ := H
      replace H := oc H
      obtain ⟨t881, A13, H⟩ := H
      replace H := oc H
      obtain ⟨t884, A14, H⟩ := H
      by_cases c15 : t884 ≥ 0
      ·rw [if_pos c15] at H
       have c15b0 : decide (0 ≤ t884) = true := decide_eq_true c15
       clear c15
       replace H := oc H
       obtain ⟨t885, A16, H⟩ := H
       obtain ⟨y888, hy888⟩ : ∃ y_ : List Int, y_ = (([1] : List Int)) := ⟨_, rfl⟩
       replace H : ((cutplaneref01_Add.f k2 t881 y888).bind fun t891 => (cutplaneref01_Root.l0 k2 l0 t891 t885 (wrap64 (x7_2 - 2)))) = some (r1, r2) := by first | (rw [hy888]; with_reducible exact H) | (have H2_ := (Option.bind_some _ _).symm.trans H; rw [hy888]; with_reducible exact H2_) | (have H2_ := (Option.bind_some _ _).symm.trans H; with_reducible exact H2_) | with_reducible exact H | (rw [hy888]; exact H) | exact H
       have Ny888 := Aside0.mk hy888
       clear hy888
       replace H := oc H
       obtain ⟨t891, A17, H⟩ := H
       have H' := Aside0.mk H
       clear H
       obtain ⟨Ao18, co18, eo18⟩ := Kd.R_slice HO_5.out
       subst eo18
       go_wp2_with (first | ((with_reducible refine gc 56 rfl ?_); refine gL (some 23) Try.func56 #[.slice Ao18 x5_2.length co18, .int .i64 2] ?_; (with_reducible refine (cutplaneref01_Up.calls k2 _ _ x5_2 2 t861 _ ?side1 ?side2 A6.out).mono ?_); (case side1 => exact rC HO_5); (case side2 => exact rN HO_5); rintro e w19 ⟨v862, rfl, ho0, hb⟩; refine ⟨_, rfl, ?_⟩; have HO863 := rL (rX (rX ho0 HO_4) HO_5) HB; replace HO_4 := rE HO_4 ho0 hb; replace HO_5 := rE HO_5 ho0 hb; replace HB := bS HB hb; clear hb ho0) | ((with_reducible refine gc 57 rfl ?_); refine gL (some 27) Try.func57 #[.slice A0 l0.length c0, .int .i64 (wrap64 (x7_2 + 1))] ?_; (with_reducible refine (cutplaneref01_Bit.calls _ _ l0 (wrap64 (x7_2 + 1)) t864 _ ?side1 ?side2 A7.out).mono ?_); (case side1 => exact cB HR0 HB); (case side2 => exact HC0.out); rintro e w' ⟨rfl, ⟨nd, rfl⟩⟩; refine ⟨_, rfl, ?_⟩) | ((with_reducible refine gc 57 rfl ?_); refine gL (some 31) Try.func57 #[.slice A0 l0.length c0, .int .i64 x7_2] ?_; (with_reducible refine (cutplaneref01_Bit.calls _ _ l0 x7_2 t865 _ ?side1 ?side2 A8.out).mono ?_); (case side1 => exact cB HR0 HB); (case side2 => exact HC0.out); rintro e w' ⟨rfl, ⟨nd, rfl⟩⟩; refine ⟨_, rfl, ?_⟩) | ((with_reducible refine gc 19 rfl ?_); refine gL (some 34) Try.func19 #[.int .u64 (((2 * t864) + t865) % 4294967296)] ?_; (with_reducible refine (cutplaneref01_Of.calls k2 (((2 * t864) + t865) % 4294967296) t866 _ A9.out).mono ?_); rintro e w20 ⟨v867, rfl, ho0, hb⟩; refine ⟨_, rfl, ?_⟩; have HO868 := rL (rX (rX (rX ho0 HO_4) HO_5) HO863) HB; replace HO_4 := rE HO_4 ho0 hb; replace HO_5 := rE HO_5 ho0 hb; replace HO863 := rE HO863 ho0 hb; replace HB := bS HB hb; clear hb ho0; obtain ⟨Ao21, co21, rfl⟩ := Kd.R_slice HO863.out; obtain ⟨Ao22, co22, rfl⟩ := Kd.R_slice HO868.out) | ((with_reducible refine gc 25 rfl ?_); refine gL (some 35) Try.func25 #[.slice Ao21 t861.length co21, .slice Ao22 t866.length co22] ?_; (with_reducible refine (cutplaneref01_Add.calls k2 _ _ t861 _ _ t866 t869 _ ?side1 ?side2 ?side3 ?side4 A10.out).mono ?_); (case side1 => exact rC HO863); (case side2 => exact rN HO863); (case side3 => exact rC HO868); (case side4 => exact rN HO868); rintro e w23 ⟨v870, rfl, ho0, hb⟩; refine ⟨_, rfl, ?_⟩; have HO871 := rL (rX (rX (rX (rX ho0 HO_4) HO_5) HO863) HO868) HB; replace HO_4 := rE HO_4 ho0 hb; replace HO_5 := rE HO_5 ho0 hb; replace HO863 := rE HO863 ho0 hb; replace HO868 := rE HO868 ho0 hb; replace HB := bS HB hb; clear hb ho0; obtain ⟨Ao24, co24, rfl⟩ := Kd.R_slice HO_4.out) | ((with_reducible refine gc 56 rfl ?_); refine gL (some 37) Try.func56 #[.slice Ao24 x4_2.length co24, .int .i64 2] ?_; (with_reducible refine (cutplaneref01_Up.calls k2 _ _ x4_2 2 t872 _ ?side1 ?side2 A11.out).mono ?_); (case side1 => exact rC HO_4); (case side2 => exact rN HO_4); rintro e w25 ⟨v873, rfl, ho0, hb⟩; refine ⟨_, rfl, ?_⟩; have HO874 := rL (rX (rX (rX (rX (rX ho0 HO_4) HO_5) HO863) HO868) HO871) HB; replace HO_4 := rE HO_4 ho0 hb; replace HO_5 := rE HO_5 ho0 hb; replace HO863 := rE HO863 ho0 hb; replace HO868 := rE HO868 ho0 hb; replace HO871 := rE HO871 ho0 hb; replace HB := bS HB hb; clear hb ho0) | ((with_reducible refine gate_dst (N := 38) rfl ?_); refine Kd.R_lit (Kd.int .u32) _ 42 ?hg (N := 38) ?hd (xs := ([1] : List Int)) (inner := [.int .u32 1]) (ok := fun _ => True) (okp := fun _ => True) ?hr ?hp (fun _ hk => hk) trivial (Below.refl _ _) (Nat.le_refl _) (by simp) ?_; (case hd => rfl); (case hg => rfl); (case hr => first | (go_simp; done) | (go_simp; rfl)); (case hp => exact (Reps.one (show Kd.M (Kd.int .u32) _ _ _ 1 [.int .u32 1] from rfl) (Reps.none _ _))); intro v876 w26 ho27 hb hg_ hnew_; clear hg_ hnew_; (first | rw [← Ny875.out] at ho27 | (simp only [Int.reduceToNat] at ho27; rw [← Ny875.out] at ho27)); have HO877 := rL (rX (rX (rX (rX (rX (rX ho27 HO_4) HO_5) HO863) HO868) HO871) HO874) HB; replace HO_4 := rE HO_4 ho27 hb; replace HO_5 := rE HO_5 ho27 hb; replace HO863 := rE HO863 ho27 hb; replace HO868 := rE HO868 ho27 hb; replace HO871 := rE HO871 ho27 hb; replace HO874 := rE HO874 ho27 hb; replace HB := bS HB hb; clear hb ho27; obtain ⟨Ao28, co28, rfl⟩ := Kd.R_slice HO874.out; obtain ⟨Ao29, co29, rfl⟩ := Kd.R_slice HO877.out) | ((with_reducible refine gc 25 rfl ?_); refine gL (some 39) Try.func25 #[.slice Ao28 t872.length co28, .slice Ao29 y875.length co29] ?_; (with_reducible refine (cutplaneref01_Add.calls k2 _ _ t872 _ _ y875 t878 _ ?side1 ?side2 ?side3 ?side4 A12.out).mono ?_); (case side1 => exact rC HO874); (case side2 => exact rN HO874); (case side3 => exact rC HO877); (case side4 => exact rN HO877); rintro e w30 ⟨v879, rfl, ho0, hb⟩; refine ⟨_, rfl, ?_⟩; have HO880 := rL (rX (rX (rX (rX (rX (rX (rX ho0 HO_4) HO_5) HO863) HO868) HO871) HO874) HO877) HB; replace HO_4 := rE HO_4 ho0 hb; replace HO_5 := rE HO_5 ho0 hb; replace HO863 := rE HO863 ho0 hb; replace HO868 := rE HO868 ho0 hb; replace HO871 := rE HO871 ho0 hb; replace HO874 := rE HO874 ho0 hb; replace HO877 := rE HO877 ho0 hb; replace HB := bS HB hb; clear hb ho0) | ((with_reducible refine gc 56 rfl ?_); refine gL (some 41) Try.func56 #[.slice Ao24 x4_2.length co24, .int .i64 1] ?_; (with_reducible refine (cutplaneref01_Up.calls k2 _ _ x4_2 1 t881 _ ?side1 ?side2 A13.out).mono ?_); (case side1 => exact rC HO_4); (case side2 => exact rN HO_4); rintro e w31 ⟨v882, rfl, ho0, hb⟩; refine ⟨_, rfl, ?_⟩; have HO883 := rL (rX (rX (rX (rX (rX (rX (rX (rX ho0 HO_4) HO_5) HO863) HO868) HO871) HO874) HO877) HO880) HB; replace HO_4 := rE HO_4 ho0 hb; replace HO_5 := rE HO_5 ho0 hb; replace HO863 := rE HO863 ho0 hb; replace HO868 := rE HO868 ho0 hb; replace HO871 := rE HO871 ho0 hb; replace HO874 := rE HO874 ho0 hb; replace HO877 := rE HO877 ho0 hb; replace HO880 := rE HO880 ho0 hb; replace HB := bS HB hb; clear hb ho0; obtain ⟨Ao32, co32, rfl⟩ := Kd.R_slice HO871.out; obtain ⟨Ao33, co33, rfl⟩ := Kd.R_slice HO880.out) | ((with_reducible refine gc 24 rfl ?_); refine gL (some 44) Try.func24 #[.slice Ao32 t869.length co32, .slice Ao33 t878.length co33] ?_; (with_reducible refine (cutplaneref01_Cmp.calls k2 _ _ t869 _ _ t878 t884 _ ?side1 ?side2 ?side3 ?side4 A14.out).mono ?_); (case side1 => exact rC HO871); (case side2 => exact rN HO871); (case side3 => exact rC HO880); (case side4 => exact rN HO880); rintro e w' ⟨rfl, ⟨nd, rfl⟩⟩; refine ⟨_, rfl, ?_⟩) | ((with_reducible refine gc 26 rfl ?_); refine gL (some 48) Try.func26 #[.slice Ao32 t869.length co32, .slice Ao33 t878.length co33] ?_; (with_reducible refine (cutplaneref01_Sub.calls k2 _ _ t869 _ _ t878 t885 _ ?side1 ?side2 ?side3 ?side4 A16.out).mono ?_); (case side1 => exact rC HO871); (case side2 => exact rN HO871); (case side3 => exact rC HO880); (case side4 => exact rN HO880); rintro e w34 ⟨v886, rfl, ho0, hb⟩; refine ⟨_, rfl, ?_⟩; have HO887 := rL (rX (rX (rX (rX (rX (rX (rX (rX (rX ho0 HO_4) HO_5) HO863) HO868) HO871) HO874) HO877) HO880) HO883) HB; replace HO_4 := rE HO_4 ho0 hb; replace HO_5 := rE HO_5 ho0 hb; replace HO863 := rE HO863 ho0 hb; replace HO868 := rE HO868 ho0 hb; replace HO871 := rE HO871 ho0 hb; replace HO874 := rE HO874 ho0 hb; replace HO877 := rE HO877 ho0 hb; replace HO880 := rE HO880 ho0 hb; replace HO883 := rE HO883 ho0 hb; replace HB := bS HB hb; clear hb ho0) | ((with_reducible refine gate_dst (N := 50) rfl ?_); refine Kd.R_lit (Kd.int .u32) _ 42 ?hg (N := 50) ?hd (xs := ([1] : List Int)) (inner := [.int .u32 1]) (ok := fun _ => True) (okp := fun _ => True) ?hr ?hp (fun _ hk => hk) trivial (Below.refl _ _) (Nat.le_refl _) (by simp) ?_; (case hd => rfl); (case hg => rfl); (case hr => first | (go_simp; done) | (go_simp; rfl)); (case hp => exact (Reps.one (show Kd.M (Kd.int .u32) _ _ _ 1 [.int .u32 1] from rfl) (Reps.none _ _))); intro v889 w35 ho36 hb hg_ hnew_; clear hg_ hnew_; (first | rw [← Ny888.out] at ho36 | (simp only [Int.reduceToNat] at ho36; rw [← Ny888.out] at ho36)); have HO890 := rL (rX (rX (rX (rX (rX (rX (rX (rX (rX (rX ho36 HO_4) HO_5) HO863) HO868) HO871) HO874) HO877) HO880) HO883) HO887) HB; replace HO_4 := rE HO_4 ho36 hb; replace HO_5 := rE HO_5 ho36 hb; replace HO863 := rE HO863 ho36 hb; replace HO868 := rE HO868 ho36 hb; replace HO871 := rE HO871 ho36 hb; replace HO874 := rE HO874 ho36 hb; replace HO877 := rE HO877 ho36 hb; replace HO880 := rE HO880 ho36 hb; replace HO883 := rE HO883 ho36 hb; replace HO887 := rE HO887 ho36 hb; replace HB := bS HB hb; clear hb ho36; obtain ⟨Ao37, co37, rfl⟩ := Kd.R_slice HO883.out; obtain ⟨Ao38, co38, rfl⟩ := Kd.R_slice HO890.out) | ((with_reducible refine gc 25 rfl ?_); refine gL (some 51) Try.func25 #[.slice Ao37 t881.length co37, .slice Ao38 y888.length co38] ?_; (with_reducible refine (cutplaneref01_Add.calls k2 _ _ t881 _ _ y888 t891 _ ?side1 ?side2 ?side3 ?side4 A17.out).mono ?_); (case side1 => exact rC HO883); (case side2 => exact rN HO883); (case side3 => exact rC HO890); (case side4 => exact rN HO890); rintro e w39 ⟨v892, rfl, ho0, hb⟩; refine ⟨_, rfl, ?_⟩; have HO893 := rL (rX (rX (rX (rX (rX (rX (rX (rX (rX (rX (rX ho0 HO_4) HO_5) HO863) HO868) HO871) HO874) HO877) HO880) HO883) HO887) HO890) HB; replace HO_4 := rE HO_4 ho0 hb; replace HO_5 := rE HO_5 ho0 hb; replace HO863 := rE HO863 ho0 hb; replace HO868 := rE HO868 ho0 hb; replace HO871 := rE HO871 ho0 hb; replace HO874 := rE HO874 ho0 hb; replace HO877 := rE HO877 ho0 hb; replace HO880 := rE HO880 ho0 hb; replace HO883 := rE HO883 ho0 hb; replace HO887 := rE HO887 ho0 hb; replace HO890 := rE HO890 ho0 hb; replace HB := bS HB hb; clear hb ho0))
       go_roundg k2
       case measure => have := HJ2.out; have := HK2.out; omega
       case rel => exact ⟨(t891), (t885), (wrap64 (x7_2 - 2)), es, H', ⟨by have := HJ2.out; have := HK2.out; omega⟩, ⟨by (with_reducible repeat (first | apply Kd.R_alloc | apply Kd.R_drewN | apply Kd.R_drew)); exact Kd.R_mono HO893.out (fun _ hk => by first | exact hk.1.2 | trivial)⟩, ⟨by (with_reducible repeat (first | apply Kd.R_alloc | apply Kd.R_drewN | apply Kd.R_drew)); exact Kd.R_mono HO887.out (fun _ hk => by first | exact hk.2 | trivial)⟩, ⟨bU HB⟩⟩
      ·rw [if_neg c15] at H
       have c15b0 : decide (0 ≤ t884) = false := decide_eq_false c15
       clear c15
       have H' := Aside0.mk H
       clear H
       obtain ⟨Ao40, co40, eo40⟩ := Kd.R_slice HO_5.out
       subst eo40
       go_wp2_with (first | ((with_reducible refine gc 56 rfl ?_); refine gL (some 23) Try.func56 #[.slice Ao40 x5_2.length co40, .int .i64 2] ?_; (with_reducible refine (cutplaneref01_Up.calls k2 _ _ x5_2 2 t861 _ ?side1 ?side2 A6.out).mono ?_); (case side1 => exact rC HO_5); (case side2 => exact rN HO_5); rintro e w41 ⟨v862, rfl, ho0, hb⟩; refine ⟨_, rfl, ?_⟩; have HO863 := rL (rX (rX ho0 HO_4) HO_5) HB; replace HO_4 := rE HO_4 ho0 hb; replace HO_5 := rE HO_5 ho0 hb; replace HB := bS HB hb; clear hb ho0) | ((with_reducible refine gc 57 rfl ?_); refine gL (some 27) Try.func57 #[.slice A0 l0.length c0, .int .i64 (wrap64 (x7_2 + 1))] ?_; (with_reducible refine (cutplaneref01_Bit.calls _ _ l0 (wrap64 (x7_2 + 1)) t864 _ ?side1 ?side2 A7.out).mono ?_); (case side1 => exact cB HR0 HB); (case side2 => exact HC0.out); rintro e w' ⟨rfl, ⟨nd, rfl⟩⟩; refine ⟨_, rfl, ?_⟩) | ((with_reducible refine gc 57 rfl ?_); refine gL (some 31) Try.func57 #[.slice A0 l0.length c0, .int .i64 x7_2] ?_; (with_reducible refine (cutplaneref01_Bit.calls _ _ l0 x7_2 t865 _ ?side1 ?side2 A8.out).mono ?_); (case side1 => exact cB HR0 HB); (case side2 => exact HC0.out); rintro e w' ⟨rfl, ⟨nd, rfl⟩⟩; refine ⟨_, rfl, ?_⟩) | ((with_reducible refine gc 19 rfl ?_); refine gL (some 34) Try.func19 #[.int .u64 (((2 * t864) + t865) % 4294967296)] ?_; (with_reducible refine (cutplaneref01_Of.calls k2 (((2 * t864) + t865) % 4294967296) t866 _ A9.out).mono ?_); rintro e w42 ⟨v867, rfl, ho0, hb⟩; refine ⟨_, rfl, ?_⟩; have HO868 := rL (rX (rX (rX ho0 HO_4) HO_5) HO863) HB; replace HO_4 := rE HO_4 ho0 hb; replace HO_5 := rE HO_5 ho0 hb; replace HO863 := rE HO863 ho0 hb; replace HB := bS HB hb; clear hb ho0; obtain ⟨Ao43, co43, rfl⟩ := Kd.R_slice HO863.out; obtain ⟨Ao44, co44, rfl⟩ := Kd.R_slice HO868.out) | ((with_reducible refine gc 25 rfl ?_); refine gL (some 35) Try.func25 #[.slice Ao43 t861.length co43, .slice Ao44 t866.length co44] ?_; (with_reducible refine (cutplaneref01_Add.calls k2 _ _ t861 _ _ t866 t869 _ ?side1 ?side2 ?side3 ?side4 A10.out).mono ?_); (case side1 => exact rC HO863); (case side2 => exact rN HO863); (case side3 => exact rC HO868); (case side4 => exact rN HO868); rintro e w45 ⟨v870, rfl, ho0, hb⟩; refine ⟨_, rfl, ?_⟩; have HO871 := rL (rX (rX (rX (rX ho0 HO_4) HO_5) HO863) HO868) HB; replace HO_4 := rE HO_4 ho0 hb; replace HO_5 := rE HO_5 ho0 hb; replace HO863 := rE HO863 ho0 hb; replace HO868 := rE HO868 ho0 hb; replace HB := bS HB hb; clear hb ho0; obtain ⟨Ao46, co46, rfl⟩ := Kd.R_slice HO_4.out) | ((with_reducible refine gc 56 rfl ?_); refine gL (some 37) Try.func56 #[.slice Ao46 x4_2.length co46, .int .i64 2] ?_; (with_reducible refine (cutplaneref01_Up.calls k2 _ _ x4_2 2 t872 _ ?side1 ?side2 A11.out).mono ?_); (case side1 => exact rC HO_4); (case side2 => exact rN HO_4); rintro e w47 ⟨v873, rfl, ho0, hb⟩; refine ⟨_, rfl, ?_⟩; have HO874 := rL (rX (rX (rX (rX (rX ho0 HO_4) HO_5) HO863) HO868) HO871) HB; replace HO_4 := rE HO_4 ho0 hb; replace HO_5 := rE HO_5 ho0 hb; replace HO863 := rE HO863 ho0 hb; replace HO868 := rE HO868 ho0 hb; replace HO871 := rE HO871 ho0 hb; replace HB := bS HB hb; clear hb ho0) | ((with_reducible refine gate_dst (N := 38) rfl ?_); refine Kd.R_lit (Kd.int .u32) _ 42 ?hg (N := 38) ?hd (xs := ([1] : List Int)) (inner := [.int .u32 1]) (ok := fun _ => True) (okp := fun _ => True) ?hr ?hp (fun _ hk => hk) trivial (Below.refl _ _) (Nat.le_refl _) (by simp) ?_; (case hd => rfl); (case hg => rfl); (case hr => first | (go_simp; done) | (go_simp; rfl)); (case hp => exact (Reps.one (show Kd.M (Kd.int .u32) _ _ _ 1 [.int .u32 1] from rfl) (Reps.none _ _))); intro v876 w48 ho49 hb hg_ hnew_; clear hg_ hnew_; (first | rw [← Ny875.out] at ho49 | (simp only [Int.reduceToNat] at ho49; rw [← Ny875.out] at ho49)); have HO877 := rL (rX (rX (rX (rX (rX (rX ho49 HO_4) HO_5) HO863) HO868) HO871) HO874) HB; replace HO_4 := rE HO_4 ho49 hb; replace HO_5 := rE HO_5 ho49 hb; replace HO863 := rE HO863 ho49 hb; replace HO868 := rE HO868 ho49 hb; replace HO871 := rE HO871 ho49 hb; replace HO874 := rE HO874 ho49 hb; replace HB := bS HB hb; clear hb ho49; obtain ⟨Ao50, co50, rfl⟩ := Kd.R_slice HO874.out; obtain ⟨Ao51, co51, rfl⟩ := Kd.R_slice HO877.out) | ((with_reducible refine gc 25 rfl ?_); refine gL (some 39) Try.func25 #[.slice Ao50 t872.length co50, .slice Ao51 y875.length co51] ?_; (with_reducible refine (cutplaneref01_Add.calls k2 _ _ t872 _ _ y875 t878 _ ?side1 ?side2 ?side3 ?side4 A12.out).mono ?_); (case side1 => exact rC HO874); (case side2 => exact rN HO874); (case side3 => exact rC HO877); (case side4 => exact rN HO877); rintro e w52 ⟨v879, rfl, ho0, hb⟩; refine ⟨_, rfl, ?_⟩; have HO880 := rL (rX (rX (rX (rX (rX (rX (rX ho0 HO_4) HO_5) HO863) HO868) HO871) HO874) HO877) HB; replace HO_4 := rE HO_4 ho0 hb; replace HO_5 := rE HO_5 ho0 hb; replace HO863 := rE HO863 ho0 hb; replace HO868 := rE HO868 ho0 hb; replace HO871 := rE HO871 ho0 hb; replace HO874 := rE HO874 ho0 hb; replace HO877 := rE HO877 ho0 hb; replace HB := bS HB hb; clear hb ho0) | ((with_reducible refine gc 56 rfl ?_); refine gL (some 41) Try.func56 #[.slice Ao46 x4_2.length co46, .int .i64 1] ?_; (with_reducible refine (cutplaneref01_Up.calls k2 _ _ x4_2 1 t881 _ ?side1 ?side2 A13.out).mono ?_); (case side1 => exact rC HO_4); (case side2 => exact rN HO_4); rintro e w53 ⟨v882, rfl, ho0, hb⟩; refine ⟨_, rfl, ?_⟩; have HO883 := rL (rX (rX (rX (rX (rX (rX (rX (rX ho0 HO_4) HO_5) HO863) HO868) HO871) HO874) HO877) HO880) HB; replace HO_4 := rE HO_4 ho0 hb; replace HO_5 := rE HO_5 ho0 hb; replace HO863 := rE HO863 ho0 hb; replace HO868 := rE HO868 ho0 hb; replace HO871 := rE HO871 ho0 hb; replace HO874 := rE HO874 ho0 hb; replace HO877 := rE HO877 ho0 hb; replace HO880 := rE HO880 ho0 hb; replace HB := bS HB hb; clear hb ho0; obtain ⟨Ao54, co54, rfl⟩ := Kd.R_slice HO871.out; obtain ⟨Ao55, co55, rfl⟩ := Kd.R_slice HO880.out) | ((with_reducible refine gc 24 rfl ?_); refine gL (some 44) Try.func24 #[.slice Ao54 t869.length co54, .slice Ao55 t878.length co55] ?_; (with_reducible refine (cutplaneref01_Cmp.calls k2 _ _ t869 _ _ t878 t884 _ ?side1 ?side2 ?side3 ?side4 A14.out).mono ?_); (case side1 => exact rC HO871); (case side2 => exact rN HO871); (case side3 => exact rC HO880); (case side4 => exact rN HO880); rintro e w' ⟨rfl, ⟨nd, rfl⟩⟩; refine ⟨_, rfl, ?_⟩))
       go_roundg k2
       case measure => have := HJ2.out; have := HK2.out; omega
       case rel => exact ⟨(t881), (t869), (wrap64 (x7_2 - 2)), es, H', ⟨by have := HJ2.out; have := HK2.out; omega⟩, ⟨by (with_reducible repeat (first | apply Kd.R_alloc | apply Kd.R_drewN | apply Kd.R_drew)); exact Kd.R_mono HO883.out (fun _ hk => by first | exact hk.1.1.1.2 | trivial)⟩, ⟨by (with_reducible repeat (first | apply Kd.R_alloc | apply Kd.R_drewN | apply Kd.R_drew)); exact Kd.R_mono HO871.out (fun _ hk => by first | exact hk.2 | trivial)⟩, ⟨bU HB⟩⟩
     ·rw [if_neg c5] at H
      have c5b0 : decide (0 ≤ x7_2) = false := decide_eq_false c5
      clear c5
      simp only [Option.some.injEq, Prod.mk.injEq] at H
      obtain ⟨rfl, rfl⟩ := H
      obtain ⟨Ao56, co56, eo56⟩ := Kd.R_slice HO_5.out
      subst eo56
      go_wp2
      go_ret2
      exact ⟨_, by first | rfl | (simp [errW_none, errW_some] <;> rfl) | (simp [*, errW_none, errW_some] <;> rfl), rU HO_4, bU HB⟩

end Go.Proofs.Ytldcelgbinenbaa.Px

namespace Go.Proofs.Ytldcelgbinenbaa.Px
open Go.RowKit Go.Proofs.YtldcelgbinenbaaW.PrintWords Go.Proofs.YtldcelgbinenbaaW.PrintLast Go.Proofs.YtldcelgbinenbaaW.PrintMore
attribute [local go_sem] max2_int min2_int max_two min_two max_three min_three max_four min_four   -- for this text's walks alone
set_option linter.unusedVariables false
set_option linter.unusedSimpArgs false

/-! ### cutplanelaw01_NatRoots: function 10 -/
def cutplanelaw01_NatRoots.f (k : Nat) (l0 : List Int) : Option (Bool) := (cutplanelaw01_long.f l0 130).bind fun t894 => (if t894 = true then ((cutplanelaw01_known.f k).bind fun t895 => (some t895)) else ((cutplanelaw01_lent.f l0).bind fun t896 => ((nat_Root.f k t896).bind fun bt899 => ((cutplaneref01_May.f l0).bind fun t904 => (if t904 = true then ((cutplaneref01_Root.f k l0).bind fun bt906 => ((cutplaneref01_Same.f k bt899.1 bt906.1).bind fun t910 => (if t910 = true then (if (bt899.2.1 == bt906.2) = true then (if bt899.2.2 = 0 then ((cutplaneref01_Same.f k t896 l0).bind fun t911 => (if t911 = true then ((cutplanelaw01_known.f k).bind fun t912 => (some t912)) else (some false))) else (some false)) else (some false)) else (some false)))) else (if (bt899.1.length : Int) = 0 then (if bt899.2.1 = true then (some false) else (if bt899.2.2 = 2 then ((cutplanelaw01_known.f k).bind fun t905 => (some t905)) else (some false))) else (some false)))))))
theorem cutplanelaw01_NatRoots.mono : ∀ a0 k, LeO (cutplanelaw01_NatRoots.f k a0) (cutplanelaw01_NatRoots.f (k + 1) a0) := by
 intro a0 k
 unfold cutplanelaw01_NatRoots.f
 repeat' (with_reducible first | exact cutplanelaw01_known.mono _ | exact cutplaneref01_Root.mono _ _ | exact cutplaneref01_Same.mono _ _ _ | exact nat_Root.mono _ _ | exact LeO.refl _ | exact LeO.none _ | refine LeO.ite ?_ ?_ | refine LeO.bind ?_ (fun _ => ?_))
set_option maxHeartbeats 8000000 in
set_option maxRecDepth 100000 in
theorem cutplanelaw01_NatRoots.calls (k : Nat) (A0 : Option Addr) (c0 : Nat) (l0 : List Int) (r : Bool) (w : World) (hr0 : Kd.C (Kd.int .u32) w A0 l0.length l0) (hc0 : l0.length ≤ c0) (h : cutplanelaw01_NatRoots.f k l0 = some r) (hr_ : r = true) :
  Calls Try.prog 10 #[.slice A0 l0.length c0] w fun e w' => e = .returned (.bool r) ∧ Below w.heap.size w w' := by
 have HR0 := Aside0.mk hr0
 have HC0 := Aside0.mk hc0
 clear hr0 hc0
 have HB := Aside0.mk (Below.refl w.heap.size w)
 have H := h
 unfold cutplanelaw01_NatRoots.f at H
 clear h
 replace H := oc H
 obtain ⟨t894, A2, H⟩ := H
 by_cases c3 : t894 = true
 ·subst c3
  rw [if_pos rfl] at H
  replace H := oc H
  obtain ⟨t895, A4, H⟩ := H
  as_aux_lemma =>
   obtain rfl := Option.some.inj H
   go_enter Try.func10, Try.ntmps10
   go_wp2_with (first | ((with_reducible refine gc 12 rfl ?_); refine gL (some 10) Try.func12 #[.slice A0 l0.length c0, .int .i64 130] ?_; (with_reducible refine (cutplanelaw01_long.calls _ _ l0 130 true _ ?side1 ?side2 A2.out).mono ?_); (case side1 => exact cU HR0); (case side2 => exact HC0.out); rintro e w' ⟨rfl, ⟨nd, rfl⟩⟩; refine ⟨_, rfl, ?_⟩) | ((with_reducible refine gc 13 rfl ?_); refine gL (some 11) Try.func13 #[] ?_; (with_reducible refine (cutplanelaw01_known.calls k  t895 _ A4.out).mono ?_); rintro e w5 ⟨rfl, hb⟩; refine ⟨_, rfl, ?_⟩; replace HB := bS HB hb; clear hb))
   go_ret
   exact ⟨by first | rfl | (simp [errW_none, errW_some] <;> rfl) | (simp [*, errW_none, errW_some] <;> rfl), bU HB⟩
 ·replace c3 := Bool.eq_false_iff.mpr c3
  subst c3
  rw [if_neg (show ¬ (false = true) by decide)] at H
  replace H := oc H
  obtain ⟨t896, A6, H⟩ := H
  replace H := oc H
  obtain ⟨⟨t899, t900, t901⟩, A7, H⟩ := H
  dsimp only at H
  replace H := oc H
  obtain ⟨t904, A8, H⟩ := H
  by_cases c9 : t904 = true
  ·subst c9
   rw [if_pos rfl] at H
   replace H := oc H
   obtain ⟨⟨t906, t907⟩, A10, H⟩ := H
   dsimp only at H
   replace H := oc H
   obtain ⟨t910, A11, H⟩ := H
   by_cases c12 : t910 = true
   ·subst c12
    rw [if_pos rfl] at H
    by_cases c13 : (t900 == t907) = true
    ·rw [if_pos c13] at H
     have c13b0 : (t900 == t907) = true := c13
     (try (have c13b1 : decide (t900 = t907) = true := by simpa using c13))
     (try (have c13b2 : (t900 == t907) = true := by simpa using c13))
     clear c13
     by_cases c14 : t901 = 0
     ·rw [if_pos c14] at H
      have c14b0 : (t901 == 0) = true := beq_iff_eq.mpr c14
      have c14b1 : (t901 != 0) = false := bne_eq_false_iff_eq.mpr c14
      clear c14
      replace H := oc H
      obtain ⟨t911, A15, H⟩ := H
      by_cases c16 : t911 = true
      ·subst c16
       rw [if_pos rfl] at H
       replace H := oc H
       obtain ⟨t912, A17, H⟩ := H
       as_aux_lemma =>
        obtain rfl := Option.some.inj H
        go_enter Try.func10, Try.ntmps10
        go_wp2_with (first | ((with_reducible refine gc 12 rfl ?_); refine gL (some 10) Try.func12 #[.slice A0 l0.length c0, .int .i64 130] ?_; (with_reducible refine (cutplanelaw01_long.calls _ _ l0 130 false _ ?side1 ?side2 A2.out).mono ?_); (case side1 => exact cU HR0); (case side2 => exact HC0.out); rintro e w' ⟨rfl, ⟨nd, rfl⟩⟩; refine ⟨_, rfl, ?_⟩) | ((with_reducible refine gc 14 rfl ?_); refine gL (some 13) Try.func14 #[.slice A0 l0.length c0] ?_; (with_reducible refine (cutplanelaw01_lent.calls _ _ l0 t896 _ ?side1 ?side2 A6.out).mono ?_); (case side1 => exact cU HR0); (case side2 => exact HC0.out); rintro e w18 ⟨v897, rfl, ho0, hb⟩; refine ⟨_, rfl, ?_⟩; have HO898 := rL ho0 HB; replace HB := bS HB hb; clear hb ho0; obtain ⟨Ao19, co19, rfl⟩ := Kd.R_slice HO898.out) | ((with_reducible refine gc 39 rfl ?_); refine gL (some 16) Try.func39 #[.slice Ao19 t896.length co19] ?_; (with_reducible refine (nat_Root.calls k _ _ t896 t899 t900 t901 _ ?side1 ?side2 A7.out).mono ?_); (case side1 => exact rC HO898); (case side2 => exact rN HO898); rintro e w20 ⟨v902, rfl, ho0, hb⟩; refine ⟨_, rfl, ?_⟩; have HO903 := rL (rX ho0 HO898) HB; replace HO898 := rE HO898 ho0 hb; replace HB := bS HB hb; clear hb ho0) | ((with_reducible refine gc 16 rfl ?_); refine gL (some 21) Try.func16 #[.slice A0 l0.length c0] ?_; (with_reducible refine (cutplaneref01_May.calls _ _ l0 true _ ?side1 ?side2 A8.out).mono ?_); (case side1 => exact cB HR0 HB); (case side2 => exact HC0.out); rintro e w' ⟨rfl, ⟨nd, rfl⟩⟩; refine ⟨_, rfl, ?_⟩) | ((with_reducible refine gc 40 rfl ?_); refine gL (some 39) Try.func40 #[.slice A0 l0.length c0] ?_; (with_reducible refine (cutplaneref01_Root.calls k _ _ l0 t906 t907 _ ?side1 ?side2 A10.out).mono ?_); (case side1 => exact cB HR0 HB); (case side2 => exact HC0.out); rintro e w21 ⟨v908, rfl, ho0, hb⟩; refine ⟨_, rfl, ?_⟩; have HO909 := rL (rX (rX ho0 HO898) HO903) HB; replace HO898 := rE HO898 ho0 hb; replace HO903 := rE HO903 ho0 hb; replace HB := bS HB hb; clear hb ho0; obtain ⟨Ao22, co22, rfl⟩ := Kd.R_slice HO903.out; obtain ⟨Ao23, co23, rfl⟩ := Kd.R_slice HO909.out) | ((with_reducible refine gc 17 rfl ?_); refine gL (some 44) Try.func17 #[.slice Ao22 t899.length co22, .slice Ao23 t906.length co23] ?_; (with_reducible refine (cutplaneref01_Same.calls k _ _ t899 _ _ t906 true _ ?side1 ?side2 ?side3 ?side4 A11.out).mono ?_); (case side1 => exact rC HO903); (case side2 => exact rN HO903); (case side3 => exact rC HO909); (case side4 => exact rN HO909); rintro e w' ⟨rfl, ⟨nd, rfl⟩⟩; refine ⟨_, rfl, ?_⟩) | (go_at_call 17; (with_reducible refine (cutplaneref01_Same.calls k _ _ t896 _ _ l0 true _ ?side1 ?side2 ?side3 ?side4 A15.out).mono ?_); (case side1 => exact rC HO898); (case side2 => exact rN HO898); (case side3 => exact cB HR0 HB); (case side4 => exact HC0.out); rintro e w' ⟨rfl, ⟨nd, rfl⟩⟩) | (go_at_call 13; (with_reducible refine (cutplanelaw01_known.calls k  t912 _ A17.out).mono ?_); rintro e w24 ⟨rfl, hb⟩; replace HO898 := rW HO898 hb; replace HO903 := rW HO903 hb; replace HO909 := rW HO909 hb; replace HB := bS HB hb; clear hb))
        go_ret
        exact ⟨by first | rfl | (simp [errW_none, errW_some] <;> rfl) | (simp [*, errW_none, errW_some] <;> rfl), bU HB⟩
      ·replace c16 := Bool.eq_false_iff.mpr c16
       subst c16
       rw [if_neg (show ¬ (false = true) by decide)] at H
       exact absurd (Option.some.inj (H.trans (congrArg some hr_))) (by decide)
     ·rw [if_neg c14] at H
      have c14b0 : (t901 == 0) = false := beq_eq_false_iff_ne.mpr c14
      have c14b1 : (t901 != 0) = true := bne_iff_ne.mpr c14
      exact absurd (Option.some.inj (H.trans (congrArg some hr_))) (by decide)
    ·rw [if_neg c13] at H
     have c13b0 : (t900 == t907) = false := by simpa using c13
     (try (have c13b1 : decide (t900 = t907) = false := by simpa using c13))
     (try (have c13b2 : (t900 == t907) = false := by simpa using c13))
     (try (have c13b3 : ¬ (t900 = t907) := by simpa using c13))
     clear c13
     exact absurd (Option.some.inj (H.trans (congrArg some hr_))) (by decide)
   ·replace c12 := Bool.eq_false_iff.mpr c12
    subst c12
    rw [if_neg (show ¬ (false = true) by decide)] at H
    exact absurd (Option.some.inj (H.trans (congrArg some hr_))) (by decide)
  ·replace c9 := Bool.eq_false_iff.mpr c9
   subst c9
   rw [if_neg (show ¬ (false = true) by decide)] at H
   by_cases c25 : (t899.length : Int) = 0
   ·rw [if_pos c25] at H
    have c25b0 : ((t899.length : Int) == 0) = true := beq_iff_eq.mpr c25
    have c25b1 : ((t899.length : Int) != 0) = false := bne_eq_false_iff_eq.mpr c25
    clear c25
    by_cases c26 : t900 = true
    ·subst c26
     rw [if_pos rfl] at H
     exact absurd (Option.some.inj (H.trans (congrArg some hr_))) (by decide)
    ·replace c26 := Bool.eq_false_iff.mpr c26
     subst c26
     rw [if_neg (show ¬ (false = true) by decide)] at H
     by_cases c27 : t901 = 2
     ·rw [if_pos c27] at H
      have c27b0 : (t901 == 2) = true := beq_iff_eq.mpr c27
      have c27b1 : (t901 != 2) = false := bne_eq_false_iff_eq.mpr c27
      clear c27
      replace H := oc H
      obtain ⟨t905, A28, H⟩ := H
      as_aux_lemma =>
       obtain rfl := Option.some.inj H
       go_enter Try.func10, Try.ntmps10
       go_wp2_with (first | ((with_reducible refine gc 12 rfl ?_); refine gL (some 10) Try.func12 #[.slice A0 l0.length c0, .int .i64 130] ?_; (with_reducible refine (cutplanelaw01_long.calls _ _ l0 130 false _ ?side1 ?side2 A2.out).mono ?_); (case side1 => exact cU HR0); (case side2 => exact HC0.out); rintro e w' ⟨rfl, ⟨nd, rfl⟩⟩; refine ⟨_, rfl, ?_⟩) | ((with_reducible refine gc 14 rfl ?_); refine gL (some 13) Try.func14 #[.slice A0 l0.length c0] ?_; (with_reducible refine (cutplanelaw01_lent.calls _ _ l0 t896 _ ?side1 ?side2 A6.out).mono ?_); (case side1 => exact cU HR0); (case side2 => exact HC0.out); rintro e w29 ⟨v897, rfl, ho0, hb⟩; refine ⟨_, rfl, ?_⟩; have HO898 := rL ho0 HB; replace HB := bS HB hb; clear hb ho0; obtain ⟨Ao30, co30, rfl⟩ := Kd.R_slice HO898.out) | ((with_reducible refine gc 39 rfl ?_); refine gL (some 16) Try.func39 #[.slice Ao30 t896.length co30] ?_; (with_reducible refine (nat_Root.calls k _ _ t896 t899 false t901 _ ?side1 ?side2 A7.out).mono ?_); (case side1 => exact rC HO898); (case side2 => exact rN HO898); rintro e w31 ⟨v902, rfl, ho0, hb⟩; refine ⟨_, rfl, ?_⟩; have HO903 := rL (rX ho0 HO898) HB; replace HO898 := rE HO898 ho0 hb; replace HB := bS HB hb; clear hb ho0) | ((with_reducible refine gc 16 rfl ?_); refine gL (some 21) Try.func16 #[.slice A0 l0.length c0] ?_; (with_reducible refine (cutplaneref01_May.calls _ _ l0 false _ ?side1 ?side2 A8.out).mono ?_); (case side1 => exact cB HR0 HB); (case side2 => exact HC0.out); rintro e w' ⟨rfl, ⟨nd, rfl⟩⟩; refine ⟨_, rfl, ?_⟩; obtain ⟨Ao32, co32, rfl⟩ := Kd.R_slice HO903.out) | (go_at_call 13; (with_reducible refine (cutplanelaw01_known.calls k  t905 _ A28.out).mono ?_); rintro e w33 ⟨rfl, hb⟩; replace HO898 := rW HO898 hb; replace HO903 := rW HO903 hb; replace HB := bS HB hb; clear hb))
       go_ret
       exact ⟨by first | rfl | (simp [errW_none, errW_some] <;> rfl) | (simp [*, errW_none, errW_some] <;> rfl), bU HB⟩
     ·rw [if_neg c27] at H
      have c27b0 : (t901 == 2) = false := beq_eq_false_iff_ne.mpr c27
      have c27b1 : (t901 != 2) = true := bne_iff_ne.mpr c27
      exact absurd (Option.some.inj (H.trans (congrArg some hr_))) (by decide)
   ·rw [if_neg c25] at H
    have c25b0 : ((t899.length : Int) == 0) = false := beq_eq_false_iff_ne.mpr c25
    have c25b1 : ((t899.length : Int) != 0) = true := bne_iff_ne.mpr c25
    have c25b2 : ¬ (t899 = []) := fun h_ => c25 (by rw [h_]; rfl)
    exact absurd (Option.some.inj (H.trans (congrArg some hr_))) (by decide)

/-- THE ONE PURE STATEMENT of cutplanelaw01_NatRoots: yours. -/
def cutplanelaw01_NatRoots.Pure : Prop := ∀ (l0 : List Int), l0.length ≤ maxLen → l0.length * 4 ≤ 140737488351232 → (∀ x ∈ l0, (Lit.int .u32 x).wf = true) → ∃ k, cutplanelaw01_NatRoots.f k l0 = some true
theorem cutplanelaw01_NatRoots.walk (P : cutplanelaw01_NatRoots.Pure) (a0 : Option Addr) (len0 cap0 : Nat) (z0 : List Int) (w : World) (w0 : (a0 = none ∧ len0 = 0 ∧ cap0 = 0 ∧ z0 = []) ∨ ∃ x, a0 = some x ∧ len0 ≤ cap0 ∧ cap0 ≤ maxLen ∧ z0.length = cap0 ∧ (∀ i, i < z0.length → w.cell? (x.add i) = some (.int .u32 (z0.getD i 0))) ∧ ∀ n ∈ z0, (Lit.int .u32 n).wf = true) (y0 : len0 * 4 ≤ 140737488351232) :
  Calls Try.prog 10 #[.slice a0 len0 cap0] w fun e w' => e = .returned (.bool true) ∧ Below w.heap.size w w' := by
 obtain ⟨l0, rfl, hr0, hm0, hw0, hc0⟩ := ReadsInt.ofRowC w0
 obtain ⟨k, h⟩ := P l0 hm0 y0 hw0
 refine (cutplanelaw01_NatRoots.calls k _ _ l0 true w (Kd.C_of_reads (d := (0 : Int)) (h1 := fun _ => rfl) hr0) hc0 h rfl).mono ?_
 rintro e w' ⟨rfl, hd⟩
 exact ⟨rfl, hd⟩

end Go.Proofs.Ytldcelgbinenbaa.Px
